/- MatrixTurns answers true for every input, and nothing that is passed in is changed; no condition. -/
import Derived.Test.YtbbjhegapilhpaaGreatM5

set_option linter.unusedVariables false
set_option linter.unusedSimpArgs false
set_option linter.unnecessarySimpa false

namespace Go.Proofs.YtbbjhegapilhpaaGreat
open Go.Proofs.YtbbjhegapilhpaaGreat.X Go.Proofs.YtbbjhegapilhpaaGreat.X.PH
set_option maxRecDepth 100000

/-! ### the Dagger -/
def daggerAt (m : Mx) (i k : Nat) : (P4 × Int) × Int := ConjF (entry m k i)
def DaggerMF (m : Mx) : Mx × Int := resM (checkMF m) (daggerAt m) (wideM m) m.length
theorem c128 (m : Mx) (i k : Nat) (hk : k < m.length) (hi : i < m[k].length) (H : PH) (u : Value) (bm : Nat) (t : TypeId) (hu : MatH H u m) (hbm : H bm = some (.cells ⟨[u]⟩ t (0, 0))) :
    Cl Tryz.prog 128 [place i k, .pointer (some ⟨bm, 0, none⟩)] H emp fun r _ _ => r = ne (ConjF m[k][i]) := by
  obtain ⟨base, cap, rfl⟩ := hu.sl
  obtain ⟨b, off, bb, cc, rfl, hrd, hn⟩ := hu.at hk
  obtain ⟨b1, off1, rfl, hx⟩ := hn.at hi
  refine Cl_of (pol := polL) Γok Tryz.func128 (by kernel_rfl) rfl ?_
  conv => whnf
  repeat (intro _; conv => whnf)
  refine W_draw (pol := polL) Γok mixes [(0, .pendO), (1, .pendO), (2, .pendO), (3, .pendO), (4, .pendO), (5, .pendO), (6, .pendO), (7, .pendO), (8, .pendO), (9, .lock), (10, .pendO), (11, .pendO), (12, .lock), (13, .pendO)] 17 (by kernel_rfl) rfl ?_
  conv => whnf
  refine ⟨_, Rd.whole hbm, ?_⟩
  conv => whnf
  refine dec_intro (by omega) ?_
  conv => whnf
  refine ⟨_, hrd _ _ (Sub.refl _), ?_⟩
  conv => whnf
  refine dec_intro (by omega) ?_
  conv => whnf
  refine ⟨_, hx _ _ (Sub.refl _), ?_⟩
  conv => whnf
  refine (c122 m[k][i] _).val fun H1 s1 => ?_
  conv => whnf
  rfl
theorem c53 (m : Mx) (hlm : m.length < 1000000) (H : PH) (u : Value) (hu : MatH H u m) : Cl Tryz.prog 53 [u] H emp fun r _ M' => OutO M' r (DaggerMF m) := by
  obtain ⟨base, cap, rfl⟩ := hu.sl
  refine Cl_of (pol := fun | 1 => .imm | _ => .loc) Γok Tryz.func53 (by kernel_rfl) rfl ?_
  conv => whnf
  intro bm hbm _
  conv => whnf
  have s1 := sub_ins H (.cells ⟨[.slice base m.length cap]⟩ 22 (0, 0)) hbm
  refine (c29 m _ _ hlm (hu.up s1)).val fun H2 s4 => ?_
  conv => whnf
  unfold DaggerMF
  refine if_intro (fun he => ?_) (fun he => ?_)
  · conv => whnf
    have he : checkMF m ≠ 0 := by simpa using he
    rw [resM_bad he]
    exact OutO.bad
  have he : checkMF m = 0 := by simpa using he
  have rm := right_of he
  have hu2 := (hu.up s1).up s4
  have hml := rm.le
  have hwl := rm.wle
  have hmp := rm.pos
  obtain ⟨bu, ou, ru, cu, rfl, hru, _⟩ := hu2.at rm.pos
  rw [← wideM_get rm.pos] at hru
  conv => whnf
  refine W_draw (pol := polL) Γok mixes [(0, .pendO), (1, .pendO), (2, .pendO), (3, .pendO), (4, .pendO), (5, .pendO), (6, .pendO), (7, .lock), (8, .pendO), (9, .pendO), (10, .pendO), (11, .pendO)] 20 (by kernel_rfl) rfl ?_
  conv => whnf
  refine dec_intro (by omega) ?_
  conv => whnf
  refine ⟨_, hru _ _ (Sub.refl _), ?_⟩
  conv => whnf
  refine (c81 (daggerAt m) (wideM m) m.length (by omega) (by omega) _ _ _ _ fun i k hi hk => ⟨128, [], [_], rfl, fun H' hs' => ?_⟩).mono fun r H4 M4 s6 hr => ?_
  · have r1 := rm.row _ (List.getElem_mem hk)
    unfold daggerAt
    rw [entry_get hk (by omega)]
    exact c128 m i k hk (by omega) H' _ _ _ (hu2.up hs') (hs' _ _ (s4 _ _ (ins_same _ _ _)))
  obtain ⟨y, rfl, hx⟩ := MadeE.out (by omega) (by omega) hr he
  conv => whnf
  exact ⟨y, rfl, hx⟩
def daggerAtR (m : Mx) (i k : Nat) : (P4 × Int) × Int := ((ConjR (entry m k i)).1, 0)
def DaggerMR (m : Mx) : Mx × Int := resM (checkMR m) (daggerAtR m) (wideM m) m.length
theorem c57 (m : Mx) (H : PH) (u : Value) (hu : MatH H u m) : Cl Tryz.prog 57 [u] H emp fun r H' _ => OutH H' r (DaggerMR m) := by
  obtain ⟨base, cap, rfl⟩ := hu.sl
  refine Cl_of (pol := (fun | 50 => .imm | _ => .loc)) Γok Tryz.func57 (by kernel_rfl) rfl ?_
  conv => whnf
  refine (c30 m _ _ hu).val fun H1 s1 => ?_
  conv => whnf
  unfold DaggerMR
  refine if_intro (fun he => ?_) (fun he => ?_)
  · conv => whnf
    have he : checkMR m ≠ 0 := by simpa using he
    rw [resM_bad he]
    exact OutH.bad
  have hA : checkMR m = 0 := by simpa using he
  have rm := right_of ((checkMF_checkMR m).trans hA)
  replace hu := hu.up s1
  obtain ⟨b, off, bb, cc, rfl, hrd0, _⟩ := hu.at rm.pos
  rw [← wideM_get rm.pos] at hrd0
  have hml := rm.le
  have hwl := rm.wle
  have hmp := rm.pos
  generalize hF : daggerAtR m = F
  conv => whnf
  refine dec_intro (by omega) ?_
  conv => whnf
  refine ⟨_, hrd0 _ _ (Sub.refl _), ?_⟩
  conv => whnf
  refine dec_intro (Int.le_refl _) ?_
  conv => whnf
  refine dec_intro (by omega) ?_
  conv => whnf
  refine dec_intro (by omega) ?_
  conv => whnf
  intro b0 hb0 _
  conv => whnf
  refine W_repart ?_
  refine W_loopX (pol := (fun | 50 => .imm | _ => .loc)) Γok (Nat × PH × List Value × PH) (fun i => i.1 ≤ (wideM m) ∧ Sub H1 i.2.1 ∧ firstErr (errsE F (wideM m) m.length) = firstErr ((errsE F (wideM m) m.length).drop (i.1 * m.length)) ∧ GridO i.2.1 i.2.2.2 b0 (wideM m) i.2.2.1 (gridM F i.1 m.length)) (fun i => (wideM m) - i.1)
    (fun e i => e = .exit 0 ∧ Sub H1 i.2.1 ∧ firstErr (errsE F (wideM m) m.length) = 0 ∧ GridO i.2.1 i.2.2.2 b0 (wideM m) i.2.2.1 (gridM F (wideM m) m.length)) (fun i => [(6, .v (.int .i64 i.1))]) (fun _ => []) (fun i => i.2.1) (fun i => i.2.2.2) ⟨(0, H1, [], ins emp b0 (.cells ⟨(List.replicate (wideM m) [Value.slice none 0 0]).flatten⟩ 50 (0, 0))), ⟨by simp, Sub.refl _, by simp, GridO.start b0 (wideM m) emp⟩, rfl, rfl, ?_⟩ ?_ ?_
  · conv => whnf
    repeat (refine ⟨rfl, ?_⟩; conv => whnf)
    exact trivial
  · rintro ⟨i, H', us, O'⟩ ⟨h1, h2, h3, h4⟩
    dsimp only at h1 h2 h3 h4
    conv => whnf
    refine if_intro (fun h => ?_) (fun h => ?_)
    · have hi : i < (wideM m) := by simpa using h
      have hus : us.length = i := by rw [h4.rows.1]; simp [gridM]

      conv => whnf
      refine W_repart ?_
      refine W_loopX (pol := (fun | 50 => .imm | _ => .loc)) Γok (Nat × PH × Value × PH) (fun k => k.1 ≤ m.length ∧ Sub H' k.2.1 ∧ firstErr (errsE F (wideM m) m.length) = firstErr ((errsE F (wideM m) m.length).drop (i * m.length + k.1)) ∧ GridC k.2.1 k.2.2.2 b0 (wideM m) us (gridM F i m.length) k.2.2.1 (gridRow F i k.1)) (fun k => m.length - k.1)
        (fun e k => e = .exit 2 ∧ Sub H' k.2.1 ∧ firstErr (errsE F (wideM m) m.length) = firstErr ((errsE F (wideM m) m.length).drop ((i + 1) * m.length)) ∧ GridC k.2.1 k.2.2.2 b0 (wideM m) us (gridM F i m.length) k.2.2.1 (gridRow F i m.length)) (fun k => [(7, .v (.int .i64 k.1))]) (fun _ => []) (fun k => k.2.1) (fun k => k.2.2.2) ⟨(0, H', .slice none 0 0, O'), ⟨by simp, Sub.refl _, h3, h4.next (by omega)⟩, rfl, rfl, ?_⟩ ?_ ?_
      · conv => whnf
        repeat (refine ⟨rfl, ?_⟩; conv => whnf)
        exact trivial
      · rintro ⟨k, H3, cur, O3⟩ ⟨k1, k2, k3, k4⟩
        dsimp only at k1 k2 k3 k4
        conv => whnf

        refine if_intro (fun h => ?_) (fun h => ?_)
        · have hk : k < m.length := by
            have : (k : Int) < ((m.length : Nat) : Int) := by simpa using h
            omega
          obtain ⟨b2, off2, bb2, cc2, hbe, hrd, hn⟩ := (hu.up h2).at hk
          cases hbe
          have hwk : m[k].length = wideM m := rm.row _ (List.getElem_mem hk)
          obtain ⟨b3, off3, rfl, hx⟩ := hn.at (i := i) (by omega)
          have hFik : F i k = ((ConjR m[k][i]).1, 0) := by
            rw [← hF]
            unfold daggerAtR
            rw [entry_get hk (by omega)]
          have he : (F i k).2 = 0 := by rw [hFik]
          have hF1 : (F i k).1 = (ConjR m[k][i]).1 := by rw [hFik]
          conv => whnf
          refine dec_intro (by omega) ?_
          conv => whnf
          refine ⟨_, hrd _ _ k2, ?_⟩
          conv => whnf
          refine dec_intro (by omega) ?_
          conv => whnf
          refine ⟨_, hx _ _ k2, ?_⟩
          conv => whnf
          refine (c116 m[k][i] _).val fun H4 s4 => ?_
          replace k4 := k4.up s4
          conv => whnf
          intro bx
          conv => whnf
          rw [← hF1]
          conv => whnf
          refine W_draw (pol := (fun | 50 => .imm | _ => .loc)) Γok mixes [(0, .pendH), (1, .pendH), (2, .pendO), (3, .pendO), (4, .pendO), (5, .pendO), (6, .pendO), (7, .lock), (8, .lock), (9, .pendO), (10, .lock)] 54 (by kernel_rfl) rfl ?_
          conv => whnf
          refine dec_intro (by omega) ?_
          conv => whnf
          refine ⟨_, k4.rd hus.symm, ?_⟩
          conv => whnf
          intro b5 hb5 hO5
          conv => whnf
          refine append_one' (xs := (gridRow F i k).map cellsOf) (y := cellsOf (F i k).1) k4.row rfl rfl (cellsOf_one _) ⟨_, _, _, rfl, rfl, Rd.whole (ins_same _ _ _)⟩ ?_ fun v2 O4 hO4 hkeep => ?_
          · simp [gridRow]
            omega
          obtain ⟨vb, vn, vc, rfl⟩ := OwnS.sl hO4
          conv => whnf
          refine dec_intro (by omega) ?_
          conv => whnf
          obtain ⟨cs, q1, q2, q3⟩ := k4.step (l' := gridRow F i (k + 1)) hus.symm (by rw [gridRow_succ, NumO, List.map_append]; exact hO4) hkeep
          refine ⟨cs, _, q1, q2, ?_⟩
          conv => whnf
          have s5 := sub_ins H4 (.cells ⟨cellsOf (F i k).1⟩ 28 (0, 0)) hb5
          refine ⟨(k + 1, ins H4 b5 (.cells ⟨cellsOf (F i k).1⟩ 28 (0, 0)), .slice vb vn vc, _), ⟨hk, k2.trans (s4.trans s5), ?_, q3.up s5⟩, by dsimp only; omega, ?_⟩
          · rw [k3, errsE_at hi hk, if_pos he]
          · conv => whnf
            refine ⟨rfl, rfl, ?_⟩
            conv => whnf
            repeat (refine ⟨rfl, ?_⟩; conv => whnf)
            refine ⟨by show En.v (.int .i64 (IntKind.i64.wrap (k + 1))) = _; rw [wrap_id (by omega) (by omega)]; rfl, ?_⟩
            conv => whnf
            repeat (refine ⟨rfl, ?_⟩; conv => whnf)
            exact trivial
        · have hk : m.length = k := by
            have : ¬ (k : Int) < ((m.length : Nat) : Int) := by simpa using h
            omega
          conv => whnf
          refine .inr ⟨(k, H3, cur, O3), ⟨rfl, k2, ?_, ?_⟩, ?_⟩
          · rw [k3, ← hk, Nat.succ_mul]
          · rw [← hk] at k4
            rw [← hk]
            exact k4
          · conv => whnf
            refine ⟨rfl, rfl, ?_⟩
            conv => whnf
            repeat (refine ⟨rfl, ?_⟩; conv => whnf)
            exact trivial
      · rintro e ⟨k, H3, cur, O3⟩ ⟨rfl, k2, k3, k4⟩
        dsimp only at k2 k3 k4
        refine .inr fun hd => ?_
        obtain ⟨H4, O4, rp, g4⟩ := k4.done hd
        refine ⟨H4, O4, rp, ?_⟩
        conv => whnf
        refine ⟨(i + 1, H4, us ++ [cur], O4), ⟨hi, h2.trans (k2.trans rp.sub), k3, ?_⟩, by dsimp only; omega, ?_⟩
        · rw [gridM_succ]; exact g4
        · conv => whnf
          refine ⟨rfl, rfl, ?_⟩
          conv => whnf
          repeat (refine ⟨rfl, ?_⟩; conv => whnf)
          refine ⟨by show En.v (.int .i64 (IntKind.i64.wrap (i + 1))) = _; rw [wrap_id (by omega) (by omega)]; rfl, ?_⟩
          conv => whnf
          repeat (refine ⟨rfl, ?_⟩; conv => whnf)
          exact trivial
    · have hi : (wideM m) = i := by
        have : ¬ (i : Int) < (((wideM m) : Nat) : Int) := by simpa using h
        omega
      conv => whnf
      refine .inr ⟨(i, H', us, O'), ⟨rfl, h2, ?_, ?_⟩, ?_⟩
      · rw [h3, ← hi, errsE_end]
      · rw [← hi] at h4
        rw [← hi]
        exact h4
      · conv => whnf
        refine ⟨rfl, rfl, ?_⟩
        conv => whnf
        repeat (refine ⟨rfl, ?_⟩; conv => whnf)
        exact trivial
  · rintro e ⟨i, H', us, O'⟩ ⟨rfl, h2, h3, h4⟩
    dsimp only at h2 h3 h4
    refine .inr fun hd => ?_
    obtain ⟨H4, O4, rp, g4⟩ := h4.mat hd (by rw [h4.rows.1]; simp [gridM])
    refine ⟨H4, O4, rp, ?_⟩
    conv => whnf
    rw [resM_ok hA h3]
    exact ⟨_, rfl, g4⟩
theorem DaggerM_eq (m : Mx) : DaggerMF m = DaggerMR m := by
  refine resM_congr (checkMF_checkMR m) fun h i k hi hk => ?_
  have he := entry_right h hk hi
  unfold daggerAt daggerAtR
  rw [← Conj_eq]
  unfold ConjF
  rw [if_pos he]
  have : (leastF (conjP (entry m k i).1) (entry m k i).2).2 = 0 := by
    have := congrArg Prod.snd (Conj_eq (entry m k i))
    unfold ConjF ConjR at this
    rw [if_pos he, if_neg (by rw [← checkF_checkR, he]; simp)] at this
    exact this
  exact Prod.ext rfl this

/-! ### sums -/
/-- The sum of some numbers, from the left to the right. -/
def sumG (f : P4 × Int → P4 × Int → (P4 × Int) × Int) : P4 × Int → List (P4 × Int) → (P4 × Int) × Int
  | o, [] => (o, 0)
  | o, x :: l => if (f o x).2 ≠ 0 then ((P4.zero, 0), (f o x).2) else sumG f (f o x).1 l
theorem sumG_step {f : P4 × Int → P4 × Int → (P4 × Int) × Int} {o : P4 × Int} {l : List (P4 × Int)} {i : Nat} (hi : i < l.length) :
    sumG f o (l.drop i) = if (f o l[i]).2 ≠ 0 then ((P4.zero, 0), (f o l[i]).2) else sumG f (f o l[i]).1 (l.drop (i + 1)) := by
  rw [List.drop_eq_getElem_cons hi]
  rfl
theorem fitsR_zero {p : P4} {k : Int} (h : (fitsR p k).2 ≠ 0) : (fitsR p k).1 = (P4.zero, 0) := by
  unfold fitsR at *
  split
  · rfl
  · rename_i h'; rw [if_neg h'] at h; exact absurd rfl h
theorem fitsR_right {p : P4} {k : Int} (h : (fitsR p k).2 = 0) : checkF (fitsR p k).1.1 (fitsR p k).1.2 = 0 := by
  unfold fitsR at *
  split
  · rename_i h'; rw [if_pos h'] at h; cases h
  · rename_i h'; rw [checkF_checkR]; simpa using h'
theorem AddR_zero {x y : P4 × Int} (h : (AddR x y).2 ≠ 0) : (AddR x y).1 = (P4.zero, 0) := by
  unfold AddR at *
  split
  · rfl
  · rename_i h'; rw [if_neg h'] at h; exact fitsR_zero h
theorem AddR_right {x y : P4 × Int} (h : (AddR x y).2 = 0) : checkF (AddR x y).1.1 (AddR x y).1.2 = 0 := by
  unfold AddR at *
  split
  · show checkF P4.zero 0 = 0
    decide
  · rename_i h'; rw [if_neg h'] at h; exact fitsR_right h
def SumF (l : List (P4 × Int)) : (P4 × Int) × Int := if errsF l ≠ 0 then ((P4.zero, 0), errsF l) else sumG AddF (P4.zero, 0) l
def SumR (l : List (P4 × Int)) : (P4 × Int) × Int := if errsR l ≠ 0 then ((P4.zero, 0), errsR l) else sumG AddR (P4.zero, 0) l
theorem Sum_eq (l : List (P4 × Int)) : SumF l = SumR l := by
  unfold SumF SumR
  rw [errs_same, show AddF = AddR from funext fun x => funext fun y => Add_eq x y]
theorem c131 (l : List (P4 × Int)) (hl : l.length < 1000000) (H : PH) (v : Value) (hv : NumH H v l) : Cl Tryz.prog 131 [v] H emp fun r _ _ => r = ne (SumR l) := by
  obtain ⟨base, cap, rfl, _⟩ := id hv
  refine Cl_of (pol := polL) Γok Tryz.func131 (by kernel_rfl) rfl ?_
  conv => whnf
  intro b2
  conv => whnf
  unfold SumR
  refine (c94 l _ _ hv (by omega)).val fun H1 s1 => ?_
  conv => whnf
  refine if_intro (fun he => ?_) (fun he => ?_)
  · conv => whnf
    rw [if_pos (show errsR l ≠ 0 by simpa using he)]
    rfl
  rw [if_neg (show ¬ errsR l ≠ 0 by simpa using he)]
  conv => whnf
  intro b5
  conv => whnf
  refine W_loop (pol := polL) Γok (Nat × PH × (P4 × Int) × Int) (fun i => i.1 ≤ l.length ∧ Sub H1 i.2.1 ∧ ((i.2.2.2 = 0 ∧ sumG AddR (P4.zero, 0) l = sumG AddR i.2.2.1 (l.drop i.1)) ∨ (i.2.2.2 ≠ 0 ∧ sumG AddR (P4.zero, 0) l = i.2.2))) (fun i => l.length - i.1) (fun i => [(7, .v (.int .i64 i.1)), (6, .v (.int .i64 i.2.2.2))]) (fun i => [(1, cellsOf i.2.2.1)]) (fun i => i.2.1) (fun _ => emp) ⟨(0, H1, (P4.zero, 0), 0), ⟨by simp, Sub.refl _, .inl ⟨rfl, by simp⟩⟩, rfl, rfl, ?_⟩ ?_
  · conv => whnf
    repeat (refine ⟨rfl, ?_⟩; conv => whnf)
    exact trivial
  · rintro ⟨i, H', o, e⟩ ⟨h1, h2, h3⟩
    dsimp only at h1 h2 h3
    conv => whnf
    refine if_intro (fun h => ?_) (fun h => ?_)
    · have hi : i < l.length := by simpa using h
      obtain ⟨b, off, rfl, hx⟩ := hv.at hi
      conv => whnf
      refine if_intro (fun h => ?_) (fun h => ?_)
      · have he : e = 0 := by simpa using h
        rcases h3 with ⟨_, h3⟩ | ⟨h3, _⟩
        rotate_left
        · exact absurd he h3
        rw [sumG_step hi] at h3
        conv => whnf
        refine W_draw (pol := polL) Γok mixes [(0, .pendO), (1, .pendO), (2, .pendO), (3, .pendO), (4, .pendO), (5, .lock), (6, .pendO), (7, .pendO), (8, .pendH), (9, .lock), (10, .pendO)] 35 (by kernel_rfl) rfl ?_
        conv => whnf
        refine dec_intro (by simpa using hi) ?_
        conv => whnf
        refine ⟨_, hx _ _ (s1.trans h2), ?_⟩
        conv => whnf
        refine (c105 o l[i] _).val fun H2 s2 => ?_
        conv => whnf
        refine ⟨(i + 1, H2, (AddR o l[i]).1, (AddR o l[i]).2), ⟨hi, h2.trans s2, ?_⟩, by dsimp only; omega, ?_⟩
        · dsimp only
          by_cases ha : (AddR o l[i]).2 = 0
          · rw [if_neg (by simpa using ha)] at h3
            exact .inl ⟨ha, h3⟩
          · rw [if_pos ha] at h3
            exact .inr ⟨ha, by rw [h3, AddR_zero ha]⟩
        · conv => whnf
          refine ⟨rfl, rfl, ?_⟩
          conv => whnf
          repeat (refine ⟨rfl, ?_⟩; conv => whnf)
          refine ⟨by show En.v (.int .i64 (IntKind.i64.wrap (i + 1))) = _; rw [wrap_id (by omega) (by omega)]; rfl, ?_⟩
          conv => whnf
          repeat (refine ⟨rfl, ?_⟩; conv => whnf)
          exact trivial
      · have he : e ≠ 0 := by simpa using h
        rcases h3 with ⟨h3, _⟩ | ⟨_, h3⟩
        · exact absurd h3 he
        conv => whnf
        rw [h3]
        rfl
    · have hi : l.length ≤ i := by simpa using h
      conv => whnf
      have h3' : sumG AddR (P4.zero, 0) l = (o, e) := by
        rcases h3 with ⟨h3, h4⟩ | ⟨_, h3⟩
        · rw [h4, List.drop_of_length_le hi, h3]; rfl
        · exact h3
      rw [h3']
      rfl
end Go.Proofs.YtbbjhegapilhpaaGreat

namespace Go.Proofs.YtbbjhegapilhpaaGreat
open Go.Proofs.YtbbjhegapilhpaaGreat.X Go.Proofs.YtbbjhegapilhpaaGreat.X.PH
set_option maxRecDepth 100000

theorem NumH.whole {H : PH} {base : Option Addr} {n cap : Nat} {l : List (P4 × Int)} (h : NumH H (.slice base n cap) l) : (base = none → l.length = 0) ∧ ∀ O a, base = some a → 0 < l.length → Rd H O a (l.length * 5) (cellsN l) := by
  obtain ⟨_, _, hv, h⟩ := h
  cases hv
  rcases h with ⟨h, _⟩ | ⟨b, off, c, t, fr, rfl, h2, h3⟩
  · exact ⟨fun _ => h, fun _ _ _ hp => by omega⟩
  · refine ⟨fun h => (by cases h), fun O a ha _ => ?_⟩
    cases ha
    rw [cellsN_length] at h3
    exact ⟨rfl, cellsN_length l, c, t, fr, .inl h2, h3⟩
theorem checks2_of {x y : P4 × Int} (hx : checkF x.1 x.2 = 0) (hy : checkF y.1 y.2 = 0) : checks2 x y = 0 := by
  unfold checks2 errsF
  simp [firstErr, hx, hy]
theorem c132 (l : List (P4 × Int)) (hl : l.length < 1000000) (H : PH) (v : Value) (hv : NumH H v l) : Cl Tryz.prog 132 [v] H emp fun r _ _ => r = ne (SumF l) := by
  obtain ⟨base, cap, rfl, _⟩ := id hv
  refine Cl_of (pol := polL) Γok Tryz.func132 (by kernel_rfl) rfl ?_
  conv => whnf
  intro b2
  conv => whnf
  refine dec_intro (Int.le_refl _) ?_
  conv => whnf
  refine dec_intro (by omega) ?_
  conv => whnf
  refine dec_intro (by omega) ?_
  conv => whnf
  intro bw hbw _
  conv => whnf
  unfold copyK
  refine ⟨some ⟨bw, 0, none⟩, l.length, l.length, base, l.length, cap, cellsN l, rfl, rfl, by rw [Nat.min_self, cellsN_length], cellsN_one l, (NumH.whole hv).1, fun a ha hp => ?_, fun h => (by cases h), fun a ha => ⟨bw, 0, (List.replicate l.length [Value.int .i64 0, .int .i64 0, .int .i64 0, .int .i64 0, .int .i64 0]).flatten, 28, (by cases ha; rfl), ins_same _ _ _, by simp, ?_⟩⟩
  · rw [Nat.min_self] at hp ⊢
    exact (NumH.whole hv).2 _ a ha hp
  have ec : (List.replicate l.length [Value.int .i64 0, .int .i64 0, .int .i64 0, .int .i64 0, .int .i64 0]).flatten.take 0 ++ cellsN l ++ (List.replicate l.length [Value.int .i64 0, .int .i64 0, .int .i64 0, .int .i64 0, .int .i64 0]).flatten.drop (0 + min l.length l.length * 5) = cellsN l := by
    rw [Nat.min_self, List.take_zero, List.nil_append, List.drop_of_length_le (by simp), List.append_nil]
  rw [ec]
  have s1 := sub_ins H (.cells ⟨cellsN l⟩ 28 (0, 0)) hbw
  have hw : NumH (ins H bw (.cells ⟨cellsN l⟩ 28 (0, 0))) (.slice (some ⟨bw, 0, none⟩) l.length l.length) l := one_row (ins_same _ _ _) rfl
  have hc := c161 l _ _ hw (by omega)
  conv => whnf
  refine Cl.pub (ins_same _ _ _) (fun _ => ?_) hc.ent
  rw [show del (ins (ins emp bw _) bw _) bw = emp by funext n; unfold del ins emp; by_cases e : n = bw <;> simp [e]]
  unfold SumF
  refine hc.val fun H1 s2 => ?_
  replace hw := hw.up s2
  conv => whnf
  refine if_intro (fun he => ?_) (fun he => ?_)
  · conv => whnf
    rw [if_pos (show errsF l ≠ 0 by simpa using he)]
    rfl
  have he : errsF l = 0 := by simpa using he
  rw [if_neg (show ¬ errsF l ≠ 0 by simpa using he)]
  have hright : ∀ x ∈ l, checkF x.1 x.2 = 0 := fun x hx => firstErr_zero he _ (List.mem_map.2 ⟨x, hx, rfl⟩)
  clear hc hv
  conv => whnf
  intro b6
  conv => whnf
  refine W_loop (pol := polL) Γok (Nat × PH × (P4 × Int)) (fun i => i.1 ≤ l.length ∧ Sub H1 i.2.1 ∧ checkF i.2.2.1 i.2.2.2 = 0 ∧ sumG AddF (P4.zero, 0) l = sumG AddF i.2.2 (l.drop i.1)) (fun i => l.length - i.1) (fun i => [(26, .v (.int .i64 i.1))]) (fun i => [(1, cellsOf i.2.2)]) (fun i => i.2.1) (fun _ => emp) ⟨(0, H1, (P4.zero, 0)), ⟨by simp, Sub.refl _, show checkF P4.zero 0 = 0 by decide, by simp⟩, rfl, rfl, ?_⟩ ?_
  · conv => whnf
    repeat (refine ⟨rfl, ?_⟩; conv => whnf)
    exact trivial
  · rintro ⟨i, H', o⟩ ⟨h1, h2, h3, h4⟩
    dsimp only at h1 h2 h3 h4
    conv => whnf
    refine if_intro (fun h => ?_) (fun h => ?_)
    · have hi : i < l.length := by simpa using h
      obtain ⟨b, off, hb, hx⟩ := hw.at hi
      cases hb
      have hxi := hright _ (List.getElem_mem hi)
      have hck := checks2_of h3 hxi
      obtain ⟨k1, k2⟩ := maxI_bounds hck
      have hA : AddF o l[i] = addG (fun a b => wr (a + b)) o l[i] := by unfold AddF; rw [if_pos hck]
      rw [sumG_step hi] at h4
      conv => whnf
      refine dec_intro (by simpa using hi) ?_
      conv => whnf
      refine ⟨_, hx _ _ h2, ?_⟩
      conv => whnf
      intro b8
      conv => whnf
      refine W_draw (pol := polL) Γok mixes [(0, .pendO), (2, .pend), (1, .lock), (3, .lock), (4, .pendO), (5, .pendO), (6, .pendH), (7, .late), (8, .lock), (9, .pendO)] 44 (by kernel_rfl) rfl ?_
      conv => whnf
      refine (c151 o.1 o.2 _).val fun H2 s3 => ?_
      conv => whnf
      refine (c165 (fun a b => wr (a + b)) 178 c178 o l[i] k1 k2 _).val fun H3 s4 => ?_
      rw [← hA]
      conv => whnf
      intro b9
      conv => whnf
      refine if_intro (fun he => ?_) (fun he => ?_)
      · have he : (AddF o l[i]).2 ≠ 0 := by simpa using he
        rw [if_pos he] at h4
        conv => whnf
        rw [h4]
        rfl
      have he : (AddF o l[i]).2 = 0 := by simpa using he
      rw [if_neg (by simpa using he)] at h4
      conv => whnf
      refine ⟨(i + 1, H3, (AddF o l[i]).1), ⟨hi, h2.trans (s3.trans s4), ?_, h4⟩, by dsimp only; omega, ?_⟩
      · have hr := he
        dsimp only
        rw [Add_eq] at hr ⊢
        exact AddR_right hr
      conv => whnf
      refine ⟨rfl, rfl, ?_⟩
      conv => whnf
      repeat (refine ⟨rfl, ?_⟩; conv => whnf)
      refine ⟨by show En.v (.int .i64 (IntKind.i64.wrap (i + 1))) = _; rw [wrap_id (by omega) (by omega)]; rfl, ?_⟩
      conv => whnf
      repeat (refine ⟨rfl, ?_⟩; conv => whnf)
      exact trivial
    · have hi : l.length ≤ i := by simpa using h
      rw [List.drop_of_length_le hi] at h4
      conv => whnf
      rw [h4]
      rfl

/-! ### the trace -/
def diagL (m : Mx) (n : Nat) : List (P4 × Int) := (List.range n).map fun i => entry m i i
theorem diagL_succ (m : Mx) (n : Nat) : diagL m (n + 1) = diagL m n ++ [entry m n n] := by
  unfold diagL
  rw [List.range_succ, List.map_append]
  rfl
theorem diagL_len (m : Mx) (n : Nat) : (diagL m n).length = n := by simp [diagL]
def TraceF (m : Mx) : (P4 × Int) × Int := if checkMF m ≠ 0 then ((P4.zero, 0), checkMF m) else if m.length ≠ wideM m then ((P4.zero, 0), 7) else SumF (diagL m m.length)
theorem c60 (m : Mx) (hlm : m.length < 1000000) (H : PH) (u : Value) (hu : MatH H u m) : Cl Tryz.prog 60 [u] H emp fun r _ _ => r = ne (TraceF m) := by
  obtain ⟨base, cap, rfl⟩ := hu.sl
  refine Cl_of (pol := (fun | 30 => .imm | _ => .loc)) Γok Tryz.func60 (by kernel_rfl) rfl ?_
  conv => whnf
  intro b2
  conv => whnf
  unfold TraceF
  refine (c29 m _ _ hlm hu).val fun H1 s1 => ?_
  
  conv => whnf
  refine if_intro (fun he => ?_) (fun he => ?_)
  · conv => whnf
    rw [if_pos (show checkMF m ≠ 0 by simpa using he)]
    rfl
  have he : checkMF m = 0 := by simpa using he
  rw [if_neg (show ¬ checkMF m ≠ 0 by simpa using he)]
  have rm := right_of he
  have hml := rm.le
  have hmp := rm.pos
  replace hu := hu.up s1
  conv => whnf
  refine (c79 m rm.pos _ _ hu).val fun H2 s2 => ?_
  replace hu := hu.up s2
  conv => whnf
  refine if_intro (fun hs => ?_) (fun hs => ?_)
  · conv => whnf
    rw [if_pos (show m.length ≠ wideM m from fun e => by rw [← e] at hs; simp at hs)]
    rfl
  have hsq : m.length = wideM m := by
    have : ((m.length : Int) == (wideM m : Int)) = true := by simpa using hs
    have := eq_of_beq this
    omega
  rw [if_neg (show ¬ m.length ≠ wideM m by simpa using hsq)]
  conv => whnf
  refine W_repart ?_
  refine W_loopX (pol := (fun | 30 => .imm | _ => .loc)) Γok (Nat × PH × Value × PH) (fun i => i.1 ≤ m.length ∧ Sub H2 i.2.1 ∧ NumO i.2.2.2 i.2.2.1 (diagL m i.1)) (fun i => m.length - i.1) (fun e i => e = .exit 0 ∧ Sub H2 i.2.1 ∧ NumO i.2.2.2 i.2.2.1 (diagL m m.length)) (fun i => [(20, .v (.int .i64 i.1)), (5, .v i.2.2.1)]) (fun _ => []) (fun i => i.2.1) (fun i => i.2.2.2) ⟨(0, H2, .slice none 0 0, emp), ⟨by simp, Sub.refl _, ?_⟩, rfl, rfl, ?_⟩ ?_ ?_
  · exact ⟨by simp [diagL], .inl ⟨rfl, by simp [diagL]⟩⟩
  · conv => whnf
    repeat (refine ⟨rfl, ?_⟩; conv => whnf)
    exact trivial
  · rintro ⟨i, H', out, O'⟩ ⟨h1, h2, h3⟩
    dsimp only at h1 h2 h3
    conv => whnf
    refine if_intro (fun h => ?_) (fun h => ?_)
    · have hi : i < m.length := by simpa using h
      have hii : i < m[i].length := by rw [rm.row _ (List.getElem_mem hi)]; omega
      obtain ⟨b, off, bb, cc, hbe, hrd, hn⟩ := hu.at hi
      cases hbe
      obtain ⟨b1, off1, rfl, hx⟩ := hn.at hii
      have hent : entry m i i = m[i][i] := entry_get hi hii
      conv => whnf
      refine dec_intro (by omega) ?_
      conv => whnf
      refine ⟨_, hrd _ _ h2, ?_⟩
      conv => whnf
      refine dec_intro (by omega) ?_
      conv => whnf
      refine ⟨_, hx _ _ h2, ?_⟩
      conv => whnf
      intro b3 hb3 hO3
      conv => whnf
      refine append_one (xs := (diagL m i).map cellsOf) (y := cellsOf m[i][i]) h3 rfl rfl (cellsOf_one _) ⟨_, _, _, rfl, rfl, Rd.whole (ins_same _ _ _)⟩ ?_ fun v O2 hO2 hfr => ?_
      · simp only [List.length_map, diagL_len]
        omega
      conv => whnf
      refine ⟨(i + 1, ins H' b3 (.cells ⟨cellsOf m[i][i]⟩ 28 (0, 0)), v, O2), ⟨hi, h2.trans (sub_ins _ _ hb3), ?_⟩, by dsimp only; omega, ?_⟩
      · dsimp only
        rw [diagL_succ, hent, NumO, List.map_append]
        exact hO2
      · conv => whnf
        refine ⟨rfl, rfl, ?_⟩
        conv => whnf
        repeat (refine ⟨rfl, ?_⟩; conv => whnf)
        refine ⟨by show En.v (.int .i64 (IntKind.i64.wrap (i + 1))) = _; rw [wrap_id (by omega) (by omega)]; rfl, ?_⟩
        conv => whnf
        repeat (refine ⟨rfl, ?_⟩; conv => whnf)
        exact trivial
    · have hi : m.length = i := by
        have : ¬ i < m.length := by simpa using h
        omega
      conv => whnf
      rw [← hi] at h3
      refine .inr ⟨(i, H', out, O'), ⟨rfl, h2, h3⟩, rfl, rfl, ?_⟩
      conv => whnf
      repeat (refine ⟨rfl, ?_⟩; conv => whnf)
      exact trivial
  rintro e ⟨i, H', out, O'⟩ ⟨rfl, h2, h3⟩
  dsimp only at h2 h3
  refine .inr fun hd => ?_
  obtain ⟨H3, O3, rp, hn3⟩ := NumO.pub hd h3
  refine ⟨H3, O3, rp, ?_⟩
  conv => whnf
  refine (c132 (diagL m m.length) (by rw [diagL_len]; omega) H3 _ hn3).val fun H4 s4 => ?_
  
  conv => whnf
  rfl
theorem c58 (m : Mx) (hlm : m.length < 1000000) (H : PH) (u : Value) (hu : MatH H u m) : Cl Tryz.prog 58 [u] H emp fun r _ _ => r = ne (TraceF m) := by
  obtain ⟨base, cap, rfl⟩ := hu.sl
  refine Cl_of (pol := (fun | 35 => .imm | _ => .loc)) Γok Tryz.func58 (by kernel_rfl) rfl ?_
  conv => whnf
  intro b2
  conv => whnf
  unfold TraceF
  refine (c30 m _ _ hu).val fun H1 s1 => ?_
  rw [← checkMF_checkMR]
  conv => whnf
  refine if_intro (fun he => ?_) (fun he => ?_)
  · conv => whnf
    rw [if_pos (show checkMF m ≠ 0 by simpa using he)]
    rfl
  have he : checkMF m = 0 := by simpa using he
  rw [if_neg (show ¬ checkMF m ≠ 0 by simpa using he)]
  have rm := right_of he
  have hml := rm.le
  have hmp := rm.pos
  replace hu := hu.up s1
  obtain ⟨b, off, bb, cc, rfl, hrd0, _⟩ := hu.at rm.pos
  rw [← wideM_get rm.pos] at hrd0
  obtain ⟨H2, hH2⟩ : ∃ X, X = H1 := ⟨_, rfl⟩
  subst hH2
  conv => whnf
  refine dec_intro (by omega) ?_
  conv => whnf
  refine ⟨_, hrd0 _ _ (Sub.refl _), ?_⟩
  conv => whnf
  refine if_intro (fun hs => ?_) (fun hs => ?_)
  · conv => whnf
    rw [if_pos (show m.length ≠ wideM m from fun e => by rw [← e] at hs; simp at hs)]
    rfl
  have hsq : m.length = wideM m := by
    have : ((m.length : Nat) : Int) = ((wideM m : Nat) : Int) := by simpa using hs
    omega
  rw [if_neg (show ¬ m.length ≠ wideM m by simpa using hsq)]
  conv => whnf
  refine W_repart ?_
  refine W_loopX (pol := (fun | 35 => .imm | _ => .loc)) Γok (Nat × PH × Value × PH) (fun i => i.1 ≤ m.length ∧ Sub H2 i.2.1 ∧ NumO i.2.2.2 i.2.2.1 (diagL m i.1)) (fun i => m.length - i.1) (fun e i => e = .exit 0 ∧ Sub H2 i.2.1 ∧ NumO i.2.2.2 i.2.2.1 (diagL m m.length)) (fun i => [(6, .v (.int .i64 i.1)), (5, .v i.2.2.1)]) (fun _ => []) (fun i => i.2.1) (fun i => i.2.2.2) ⟨(0, H2, .slice none 0 0, emp), ⟨by simp, Sub.refl _, ?_⟩, rfl, rfl, ?_⟩ ?_ ?_
  · exact ⟨by simp [diagL], .inl ⟨rfl, by simp [diagL]⟩⟩
  · conv => whnf
    repeat (refine ⟨rfl, ?_⟩; conv => whnf)
    exact trivial
  · rintro ⟨i, H', out, O'⟩ ⟨h1, h2, h3⟩
    dsimp only at h1 h2 h3
    conv => whnf
    refine if_intro (fun h => ?_) (fun h => ?_)
    · have hi : i < m.length := by simpa using h
      have hii : i < m[i].length := by rw [rm.row _ (List.getElem_mem hi)]; omega
      obtain ⟨b, off, bb, cc, hbe, hrd, hn⟩ := hu.at hi
      cases hbe
      obtain ⟨b1, off1, rfl, hx⟩ := hn.at hii
      have hent : entry m i i = m[i][i] := entry_get hi hii
      conv => whnf
      refine dec_intro (by omega) ?_
      conv => whnf
      refine ⟨_, hrd _ _ h2, ?_⟩
      conv => whnf
      refine dec_intro (by omega) ?_
      conv => whnf
      refine ⟨_, hx _ _ h2, ?_⟩
      conv => whnf
      intro b3 hb3 hO3
      conv => whnf
      refine append_one (xs := (diagL m i).map cellsOf) (y := cellsOf m[i][i]) h3 rfl rfl (cellsOf_one _) ⟨_, _, _, rfl, rfl, Rd.whole (ins_same _ _ _)⟩ ?_ fun v O2 hO2 hfr => ?_
      · simp only [List.length_map, diagL_len]
        omega
      conv => whnf
      refine ⟨(i + 1, ins H' b3 (.cells ⟨cellsOf m[i][i]⟩ 28 (0, 0)), v, O2), ⟨hi, h2.trans (sub_ins _ _ hb3), ?_⟩, by dsimp only; omega, ?_⟩
      · dsimp only
        rw [diagL_succ, hent, NumO, List.map_append]
        exact hO2
      · conv => whnf
        refine ⟨rfl, rfl, ?_⟩
        conv => whnf
        repeat (refine ⟨rfl, ?_⟩; conv => whnf)
        refine ⟨by show En.v (.int .i64 (IntKind.i64.wrap (i + 1))) = _; rw [wrap_id (by omega) (by omega)]; rfl, ?_⟩
        conv => whnf
        repeat (refine ⟨rfl, ?_⟩; conv => whnf)
        exact trivial
    · have hi : m.length = i := by
        have : ¬ i < m.length := by simpa using h
        omega
      conv => whnf
      rw [← hi] at h3
      refine .inr ⟨(i, H', out, O'), ⟨rfl, h2, h3⟩, rfl, rfl, ?_⟩
      conv => whnf
      repeat (refine ⟨rfl, ?_⟩; conv => whnf)
      exact trivial
  rintro e ⟨i, H', out, O'⟩ ⟨rfl, h2, h3⟩
  dsimp only at h2 h3
  refine .inr fun hd => ?_
  obtain ⟨H3, O3, rp, hn3⟩ := NumO.pub hd h3
  refine ⟨H3, O3, rp, ?_⟩
  conv => whnf
  refine (c131 (diagL m m.length) (by rw [diagL_len]; omega) H3 _ hn3).val fun H4 s4 => ?_
  rw [← Sum_eq]
  conv => whnf
  rfl
end Go.Proofs.YtbbjhegapilhpaaGreat

namespace Go.Proofs.YtbbjhegapilhpaaGreat
open Go.Proofs.YtbbjhegapilhpaaGreat.X Go.Proofs.YtbbjhegapilhpaaGreat.X.PH
set_option maxRecDepth 100000

/-! ### What sums and products are, before they are brought into least form -/
theorem right_in {x : P4 × Int} (h : checkF x.1 x.2 = 0) : 0 ≤ x.2 ∧ x.2 ≤ 60 ∧ x.1.within 1073741824 := by
  have := checkF_range h
  exact ⟨this.1, this.2.1, (all_iff (by decide) (by decide)).1 this.2.2⟩
theorem in_right {x : P4 × Int} (h0 : 0 ≤ x.2) (h1 : x.2 ≤ 60) (h : x.1.within 1073741824) : checkF x.1 x.2 = 0 := by
  unfold checkF
  rw [show (decide (x.2 < 0) || decide (x.2 > 60)) = false by simp; omega, (all_iff (by decide) (by decide)).2 h]
  rfl
/-- The sum of two numbers that are brought to the same K. -/
def sumP (x y : P4 × Int) : P4 := pl (rz (max x.2 y.2 - x.2).toNat x.1) (rz (max x.2 y.2 - y.2).toNat y.1)
theorem Add_fits {x y : P4 × Int} (hx : checkF x.1 x.2 = 0) (hy : checkF y.1 y.2 = 0) : AddR x y = fitsR (sumP x y) (max x.2 y.2) ∧ (sumP x y).within 2305843009213693952 := by
  obtain ⟨x0, xk, wx⟩ := right_in hx
  obtain ⟨y0, yk, wy⟩ := right_in hy
  have hw : (sumP x y).within 2305843009213693952 := pl_within (rz_within wx (by omega)) (rz_within wy (by omega)) (by decide)
  refine ⟨?_, hw⟩
  rw [← Add_eq]
  unfold AddF
  rw [if_pos (checks2_of hx hy)]
  have mx : maxI x.2 y.2 = max x.2 y.2 := by unfold maxI; split <;> omega
  unfold addG raisedF
  rw [mx, wr_id (n := max x.2 y.2 - x.2) (by omega) (by omega), wr_id (n := max x.2 y.2 - y.2) (by omega) (by omega)]
  rw [raiseP_rz wx _ (by omega), raiseP_rz wy _ (by omega), opP_pl (rz_within wx (by omega)) (rz_within wy (by omega))]
  exact least_fits (fine_of hw) (by omega)
theorem Mul_fits {x y : P4 × Int} (hx : checkF x.1 x.2 = 0) (hy : checkF y.1 y.2 = 0) : MulR x y = fitsR (pz x.1 y.1) (x.2 + y.2) ∧ (pz x.1 y.1).fine := by
  obtain ⟨x0, xk, wx⟩ := right_in hx
  obtain ⟨y0, yk, wy⟩ := right_in hy
  refine ⟨?_, pz_fine wx wy⟩
  unfold MulR
  rw [errs_same, if_neg (show ¬ errsF [x, y] ≠ 0 from fun h => h (checks2_of hx hy)), wr_id (by omega) (by omega), product_pz wx wy]
/-- The conjugate's coefficients. -/
def cz (p : P4) : P4 := ⟨p.a, -p.d, -p.c, -p.b⟩
theorem cz_within {p : P4} {n : Int} (h : p.within n) : (cz p).within n := by
  unfold P4.within at *
  unfold cz
  dsimp only
  omega
theorem conjP_cz {p : P4} (h : p.within 1073741824) : conjP p = cz p := by
  unfold P4.within at h
  unfold conjP cz
  rw [wr_id (by omega) (by omega), wr_id (by omega) (by omega), wr_id (by omega) (by omega)]
  simp
theorem Conj_form {x : P4 × Int} (hx : checkF x.1 x.2 = 0) : ConjR x = (formR (cz x.1) x.2, 0) ∧ checkF (cz x.1) x.2 = 0 := by
  obtain ⟨x0, xk, wx⟩ := right_in hx
  refine ⟨?_, in_right (x := (cz x.1, x.2)) x0 xk (cz_within wx)⟩
  unfold ConjR
  rw [if_neg (by rw [← checkF_checkR, hx]; simp), conjP_cz wx]

/-! ### Least forms -/
theorem lowerR_endF : ∀ (k : Nat) (p : P4), p.fine → p.isZero = false → ((lowerR k p).2 = 0 ∨ evenR (lowerR k p).1 = false) ∧ (lowerR k p).1.isZero = false
  | 0, p, _, hz => ⟨.inl rfl, hz⟩
  | k + 1, p, h, hz => by
    unfold lowerR
    cases he : evenR p with
    | true =>
      simp only [if_true]
      obtain ⟨_, h2, h3, h4⟩ := half_fine h he
      rw [h2]
      refine lowerR_endF k (hf p) h3 ?_
      rw [← tw_zero, h4]
      exact hz
    | false =>
      simp only [Bool.false_eq_true, if_false]
      exact ⟨.inr he, hz⟩
theorem formR_idem {p : P4} {k : Int} (h : p.fine) (hk : 0 ≤ k) : formR (formR p k).1 (formR p k).2 = formR p k := by
  cases hz : p.isZero with
  | true =>
    have : p = P4.zero := isZero_eq hz
    subst this
    rfl
  | false =>
    rw [formR_eq hk hz]
    dsimp only
    obtain ⟨h1, h2⟩ := lowerR_endF k.toNat p h hz
    rw [formR_eq (Int.natCast_nonneg _) h2, Int.toNat_natCast, lowerR_stop h1]
/-- A right number in least form. -/
structure IsL (z : P4 × Int) : Prop where
  ok : checkF z.1 z.2 = 0
  form : formR z.1 z.2 = z
theorem IsL.least {z : P4 × Int} (h : IsL z) : LeastF z.1 z.2 = (z, 0) := by rw [LeastF_eq h.ok, h.form]
theorem fits_L {p : P4} {k : Int} (h : p.fine) (hk : 0 ≤ k) (he : (fitsR p k).2 = 0) : IsL (fitsR p k).1 := by
  refine ⟨fitsR_right he, ?_⟩
  unfold fitsR at *
  split
  · rfl
  · exact formR_idem h hk
theorem Add_errs {x y : P4 × Int} (h : (AddR x y).2 = 0) : checkF x.1 x.2 = 0 ∧ checkF y.1 y.2 = 0 := by
  unfold AddR at h
  split at h
  · rename_i h'; exact absurd h h'
  · rename_i h'
    rw [errs_same] at h'
    exact checks2_zero (by simpa [checks2] using h')
theorem Mul_errs {x y : P4 × Int} (h : (MulR x y).2 = 0) : checkF x.1 x.2 = 0 ∧ checkF y.1 y.2 = 0 := by
  unfold MulR at h
  split at h
  · rename_i h'; exact absurd h h'
  · rename_i h'
    rw [errs_same] at h'
    exact checks2_zero (by simpa [checks2] using h')
theorem Add_L {x y : P4 × Int} (h : (AddR x y).2 = 0) : IsL (AddR x y).1 := by
  obtain ⟨hx, hy⟩ := Add_errs h
  obtain ⟨e, hw⟩ := Add_fits hx hy
  have := right_in hx
  rw [e] at h ⊢
  exact fits_L (fine_of hw) (by omega) h
theorem Mul_L {x y : P4 × Int} (h : (MulR x y).2 = 0) : IsL (MulR x y).1 := by
  obtain ⟨hx, hy⟩ := Mul_errs h
  obtain ⟨e, hw⟩ := Mul_fits hx hy
  have := right_in hx
  have := right_in hy
  rw [e] at h ⊢
  exact fits_L hw (by omega) h
theorem form_L {p : P4} {k : Int} (h : checkF p k = 0) : IsL (formR p k) := ⟨(formR_right h).1, (formR_right h).2⟩
theorem Conj_L {x : P4 × Int} (h : checkF x.1 x.2 = 0) : IsL (ConjR x).1 := by
  obtain ⟨e, hc⟩ := Conj_form h
  rw [e]
  exact form_L hc
theorem zero_L : IsL (P4.zero, 0) := ⟨by decide, rfl⟩
theorem one_L : IsL oneN := ⟨by decide, rfl⟩
theorem dotStep_L {o z : P4 × Int} {f : Bool} {w : P4 × Int} (h : (dotStepR o z f w).2 = 0) : IsL (dotStepR o z f w).1 := by
  unfold dotStepR at *
  dsimp only at *
  by_cases hm : (MulR z w).2 = 0
  · rw [if_pos hm] at *
    cases f with
    | true =>
      simp only [if_true] at *
      rw [if_pos hm]
      exact Mul_L hm
    | false =>
      simp only [Bool.false_eq_true, if_false] at *
      by_cases ha : (AddR o (MulR z w).1).2 = 0
      · rw [if_pos ha]
        exact Add_L ha
      · rw [if_neg ha] at h
        exact absurd h ha
  · rw [if_neg hm] at *
    rw [if_neg hm] at h
    exact absurd h hm
theorem dotR_L {x y : Nat → P4 × Int} : ∀ n, (dotR x y n).2 = 0 → IsL (dotR x y n).1
  | 0, _ => zero_L
  | n + 1, h => by
    unfold dotR at *
    by_cases h' : (dotR x y n).2 = 0
    · rw [if_pos h'] at *
      exact dotStep_L h
    · rw [if_neg h'] at *
      exact absurd h h'

/-! ### The identity -/
theorem movedM_shape (t : Nat → Nat) (n : Nat) : ∀ k, (movedM t n k).length = n ∧ ∀ (i : Nat) (r : List (P4 × Int)), (movedM t n k)[i]? = some r → r.length = n
  | 0 => ⟨by simp [movedM], fun i r hr => by
    simp [movedM, List.getElem?_replicate] at hr
    rw [← hr.2]
    simp [zeros]⟩
  | k + 1 => setM_shape (movedM_shape t n k).1 (movedM_shape t n k).2 _ _ _
theorem movedM_entry {t : Nat → Nat} {n : Nat} (ht : ∀ k, k < n → t k < n) : ∀ k, k ≤ n → ∀ i j, i < n → j < n → entry (movedM t n k) i j = if j < k ∧ i = t j then oneN else (P4.zero, 0)
  | 0, _, i, j, hi, hj => by simp [movedM, entry, zeros, List.getElem?_replicate, hi, hj]
  | k + 1, hk, i, j, hi, hj => by
    obtain ⟨s1, s2⟩ := movedM_shape t n k
    show entry (setM (movedM t n k) (t k) k oneN) i j = _
    rw [entry_set s1 s2 _ (ht k (by omega)) (by omega), movedM_entry ht k (by omega) i j hi hj]
    by_cases e : j = k
    · subst e
      by_cases e' : i = t j
      · rw [if_pos ⟨e', rfl⟩, if_pos ⟨by omega, e'⟩]
      · rw [if_neg (fun h => e' h.1), if_neg (fun h => e' h.2), if_neg (fun h => e' h.2)]
    · rw [if_neg (fun h => e h.2)]
      by_cases e' : j < k ∧ i = t j
      · rw [if_pos e', if_pos ⟨by omega, e'.2⟩]
      · rw [if_neg e', if_neg (fun h => e' ⟨by omega, h.2⟩)]
theorem grid_right (F : Nat → Nat → (P4 × Int) × Int) {h w : Nat} (h1 : 0 < h) (h2 : h ≤ 64) (w1 : 0 < w) (w2 : w ≤ 64) : Right (gridM F h w) ∧ wideM (gridM F h w) = w := by
  obtain ⟨s1, s2⟩ := gridM_shape F h w
  have hw : wideM (gridM F h w) = w := by
    rw [wideM_get (by omega)]
    exact s2 0 _ (List.getElem?_eq_getElem _)
  refine ⟨⟨by omega, by omega, fun r hr => ?_, by omega, by omega⟩, hw⟩
  obtain ⟨i, hi⟩ := List.mem_iff_getElem?.1 hr
  rw [hw]
  exact s2 i r hi
theorem id_right {n : Nat} (h1 : 0 < n) (h2 : n ≤ 64) (t : Nat → Nat) : Right (movedM t n n) ∧ wideM (movedM t n n) = n := by
  obtain ⟨s1, s2⟩ := movedM_shape t n n
  have hw : wideM (movedM t n n) = n := by
    rw [wideM_get (by omega)]
    exact s2 0 _ (List.getElem?_eq_getElem _)
  refine ⟨⟨by omega, by omega, fun r hr => ?_, by omega, by omega⟩, hw⟩
  obtain ⟨i, hi⟩ := List.mem_iff_getElem?.1 hr
  rw [hw]
  exact s2 i r hi
/-- A matrix of right numbers is right. -/
theorem check_grid {m : Mx} (rm : Right m) (h : ∀ i k, i < m.length → k < wideM m → checkF (entry m i k).1 (entry m i k).2 = 0) : checkMF m = 0 := by
  rw [checkMF_checkMR]
  unfold checkMR
  rw [show (decide ((m.length : Int) < 1) || decide ((m.length : Int) > 64)) = false by have := rm.pos; have := rm.le; simp; omega]
  have hb : m.any (badRow m) = false := by
    rw [List.any_eq_false]
    intro r hr
    have h1 := rm.row r hr
    have h2 := rm.wpos
    have h3 := rm.wle
    unfold badRow
    have : (m.headD []).length = wideM m := rfl
    rw [this]
    simp
    omega
  rw [hb]
  simp only [Bool.false_eq_true, if_false]
  refine firstErr_all fun e he => ?_
  obtain ⟨r, hr, rfl⟩ := List.mem_map.1 he
  refine firstErr_all fun e he => ?_
  obtain ⟨x, hx, rfl⟩ := List.mem_map.1 he
  obtain ⟨i, hi, rfl⟩ := List.mem_iff_getElem.1 hr
  obtain ⟨k, hk, rfl⟩ := List.mem_iff_getElem.1 hx
  have := h i k hi (by rw [← rm.row _ hr]; exact hk)
  rw [entry_get hi hk] at this
  rw [← checkF_checkR]
  exact this
end Go.Proofs.YtbbjhegapilhpaaGreat

namespace Go.Proofs.YtbbjhegapilhpaaGreat
open Go.Proofs.YtbbjhegapilhpaaGreat.X Go.Proofs.YtbbjhegapilhpaaGreat.X.PH
set_option maxRecDepth 100000

theorem dagger_ok {m : Mx} (h : checkMF m = 0) : DaggerMF m = (gridM (daggerAtR m) (wideM m) m.length, 0) := by
  rw [DaggerM_eq]
  exact resM_ok ((checkMF_checkMR m).symm.trans h) (errs_zero fun _ _ _ _ => rfl)
theorem dagger_check {m : Mx} (h : checkMF m = 0) : checkMF (gridM (daggerAtR m) (wideM m) m.length) = 0 := by
  have rm := right_of h
  obtain ⟨rd, hw⟩ := grid_right (daggerAtR m) rm.wpos rm.wle rm.pos rm.le
  refine check_grid rd fun i k hi hk => ?_
  rw [hw] at hk
  rw [(gridM_shape _ _ _).1] at hi
  rw [gridM_entry _ hi hk]
  exact (Conj_L (entry_right h hk hi)).ok
/-- The product that is compared with the identity. -/
def unitP (m : Mx) : Mx × Int := MulMR (gridM (daggerAtR m) (wideM m) m.length) m
def isUnit (p : Mx) (n : Nat) : Bool := (List.range (n * n)).all fun t => eqN (entry p (t / n) (t % n)) (if t / n = t % n then oneN else (P4.zero, 0))
def UnitaryR (m : Mx) : Bool × Int :=
  if checkMF m ≠ 0 then (false, checkMF m) else if m.length ≠ wideM m then (false, 0) else if (unitP m).2 ≠ 0 then (false, (unitP m).2) else (isUnit (unitP m).1 m.length, 0)
theorem unitP_err {m : Mx} (h : checkMF m = 0) (hs : m.length = wideM m) : mulErr (gridM (daggerAtR m) (wideM m) m.length) m = 0 := by
  have rm := right_of h
  obtain ⟨rd, hw⟩ := grid_right (daggerAtR m) rm.wpos rm.wle rm.pos rm.le
  unfold mulErr bothErr errsM
  rw [hw]
  simp [firstErr, dagger_check h, h]
theorem unitP_ok {m : Mx} (h : checkMF m = 0) (hs : m.length = wideM m) (he : (unitP m).2 = 0) : (unitP m).1 = gridM (mulAtR (gridM (daggerAtR m) (wideM m) m.length) m) m.length m.length ∧
    ∀ i k, i < m.length → k < m.length → IsL (entry (unitP m).1 i k) := by
  have rm := right_of h
  have hE := unitP_err h hs
  have hsh := (gridM_shape (daggerAtR m) (wideM m) m.length).1
  have hF : firstErr (errsE (mulAtR (gridM (daggerAtR m) (wideM m) m.length) m) m.length m.length) = 0 := by
    unfold unitP MulMR at he
    rw [hsh, ← hs] at he
    by_cases hx : firstErr (errsE (mulAtR (gridM (daggerAtR m) m.length m.length) m) m.length m.length) = 0
    · rw [← hs]; exact hx
    · rw [← hs] at hE
      rw [resM_err hE rfl hx] at he
      exact absurd he hx
  have e : (unitP m).1 = gridM (mulAtR (gridM (daggerAtR m) (wideM m) m.length) m) m.length m.length := by
    unfold unitP MulMR
    rw [hsh]
    rw [← hs] at hE hF ⊢
    rw [resM_ok hE hF]
  refine ⟨e, fun i k hi hk => ?_⟩
  rw [e, gridM_entry _ hi hk]
  have hz := firstErr_zero hF
  have hlt : i * m.length + k < m.length * m.length := by
    have := Nat.mul_le_mul_right m.length (show i + 1 ≤ m.length by omega)
    rw [Nat.succ_mul] at this
    omega
  have := hz (mulAtR (gridM (daggerAtR m) (wideM m) m.length) m i k).2 (by
    unfold errsE
    refine List.mem_map.2 ⟨i * m.length + k, List.mem_range.2 hlt, ?_⟩
    rw [(divmod hk).1, (divmod hk).2])
  unfold mulAtR at this ⊢
  exact dotR_L _ this

theorem c134 (k : Nat) (H : PH) : Cl Tryz.prog 134 [.int .i64 k] H emp fun r _ _ => r = .int .i64 k := by
  refine Cl_of (pol := polL) Γok Tryz.func134 (by kernel_rfl) rfl ?_
  conv => whnf
theorem c61 (m : Mx) (hlm : m.length < 1000000) (H : PH) (u : Value) (hu : MatH H u m) : Cl Tryz.prog 61 [u] H emp fun r _ _ => r = .tuple #[.bool (UnitaryR m).1, .int .i64 (UnitaryR m).2] := by
  obtain ⟨base, cap, rfl⟩ := hu.sl
  refine Cl_of (pol := polL) Γok Tryz.func61 (by kernel_rfl) rfl ?_
  conv => whnf
  unfold UnitaryR
  refine (Cl.outH (c53 m hlm H _ hu)).use fun r H1 s1 hr => ?_
  obtain ⟨_, d, rfl, hd⟩ := hr
  replace hu := hu.up s1
  conv => whnf
  by_cases he : checkMF m = 0
  rotate_left
  · rw [if_pos he]
    have hD : DaggerMF m = ([], checkMF m) := resM_bad he
    rw [hD]
    refine if_intro (fun _ => ?_) (fun h => ?_)
    · conv => whnf
    · have : checkMF m = 0 := by simpa using h
      exact absurd this he
  rw [if_neg (by simpa using he)]
  have rm := right_of he
  have hml := rm.le
  have hmp := rm.pos
  rw [dagger_ok he] at hd ⊢
  dsimp only at hd
  conv => whnf
  refine (c79 m rm.pos _ _ hu).val fun H2 s2 => ?_
  replace hu := hu.up s2
  replace hd := hd.up s2
  conv => whnf
  refine if_intro (fun hs => ?_) (fun hs => ?_)
  · conv => whnf
    rw [if_pos (show m.length ≠ wideM m from fun e => by rw [← e] at hs; simp at hs)]
  have hsq : m.length = wideM m := by
    have : ((m.length : Int) == (wideM m : Int)) = true := by simpa using hs
    have := eq_of_beq this
    omega
  rw [if_neg (by simpa using hsq)]
  obtain ⟨rd, hw⟩ := grid_right (daggerAtR m) rm.wpos rm.wle rm.pos rm.le
  have hsh := (gridM_shape (daggerAtR m) (wideM m) m.length).1
  have hmul := c112 (gridM (daggerAtR m) (wideM m) m.length) m (by omega) rm.pos (by omega) (by omega) (fun r hr => by rw [rd.row r hr, hw]) rm.row _ _ _ hd hu
  have hP : unitP m = resM 0 (mulAt (gridM (daggerAtR m) (wideM m) m.length) m) (wideM m) (wideM m) := by
    unfold unitP
    rw [← MulM_eq]
    unfold MulMF
    rw [hsh, unitP_err he hsq]
  conv => whnf
  refine (Cl.outH (x := unitP m) (hmul.mono fun r H' M' _ hr => ?_)).use fun r H3 s3 hr => ?_
  · rw [hP]
    rw [hsh] at hr
    exact hr.out (by omega) (by omega) rfl
  obtain ⟨_, p, rfl, hp⟩ := hr
  conv => whnf
  refine if_intro (fun h => ?_) (fun h => ?_)
  · conv => whnf
    rw [if_pos (show (unitP m).2 ≠ 0 by simpa using h)]
  have h2 : (unitP m).2 = 0 := by simpa using h
  rw [if_neg (by simpa using h2)]
  obtain ⟨p1, p2⟩ := unitP_ok he hsq h2
  conv => whnf
  refine (c133h (fun k => k) m.length (by omega) (fun k hk => hk) _ _ _ _ (fun k hk => ⟨134, [], [], rfl, fun H' _ => c134 k H'⟩)).use fun q H4 s4 hq => ?_
  obtain ⟨_, hq⟩ := hq
  obtain ⟨ri, iw⟩ := id_right rm.pos rm.le (fun k => k)
  obtain ⟨rp, pw⟩ := grid_right (mulAtR (gridM (daggerAtR m) (wideM m) m.length) m) rm.pos rm.le rm.pos rm.le
  rw [← p1] at rp pw
  have pl : (unitP m).1.length = m.length := by rw [p1]; exact (gridM_shape _ _ _).1
  have il := (movedM_shape (fun k => k) m.length m.length).1
  conv => whnf
  refine (c103 (unitP m).1 (movedM (fun k => k) m.length m.length) rp ri (by unfold alikeF; rw [pl, pw, il, iw]; simp) _ _ _ (hp.up s4) hq).val fun H5 s5 => ?_
  conv => whnf
  congr 4
  rw [pl, pw]
  unfold isUnit
  refine all_congr fun t ht => ?_
  have t1 : t / m.length < m.length := Nat.div_lt_of_lt_mul ht
  have t2 : t % m.length < m.length := Nat.mod_lt _ rm.pos
  unfold samePl
  rw [pw, (p2 _ _ t1 t2).least, movedM_entry (fun k hk => hk) m.length (Nat.le_refl _) _ _ t1 t2]
  by_cases e : t / m.length = t % m.length
  · rw [if_pos ⟨t2, e⟩, if_pos e, one_L.least]
  · rw [if_neg (fun h => e h.2), if_neg e, zero_L.least]
end Go.Proofs.YtbbjhegapilhpaaGreat

namespace Go.Proofs.YtbbjhegapilhpaaGreat
open Go.Proofs.YtbbjhegapilhpaaGreat.X Go.Proofs.YtbbjhegapilhpaaGreat.X.PH
set_option maxRecDepth 100000

def okU (p : Mx) (n t : Nat) : Bool := eqN (entry p (t / n) (t % n)) (if t / n = t % n then oneN else (P4.zero, 0))
theorem isUnit_no {p : Mx} {n i k : Nat} (hi : i < n) (hk : k < n) (h : okU p n (i * n + k) = false) : isUnit p n = false := by
  unfold isUnit
  rw [List.all_eq_false]
  refine ⟨i * n + k, List.mem_range.2 ?_, ?_⟩
  · have := Nat.mul_le_mul_right n (show i + 1 ≤ n by omega)
    rw [Nat.succ_mul] at this
    omega
  · unfold okU at h
    rw [h]
    simp
theorem okU_at {p : Mx} {n i k : Nat} (hk : k < n) : okU p n (i * n + k) = eqN (entry p i k) (if i = k then oneN else (P4.zero, 0)) := by
  unfold okU
  rw [(divmod hk).1, (divmod hk).2]
set_option maxHeartbeats 1000000 in
theorem c59 (m : Mx) (H : PH) (u : Value) (hu : MatH H u m) : Cl Tryz.prog 59 [u] H emp fun r _ _ => r = .tuple #[.bool (UnitaryR m).1, .int .i64 (UnitaryR m).2] := by
  obtain ⟨base, cap, rfl⟩ := hu.sl
  refine Cl_of (pol := polL) Γok Tryz.func59 (by kernel_rfl) rfl ?_
  conv => whnf
  unfold UnitaryR
  refine (c30 m _ _ hu).val fun H1 s1 => ?_
  rw [← checkMF_checkMR]
  conv => whnf
  refine if_intro (fun he => ?_) (fun he => ?_)
  · conv => whnf
    rw [if_pos (show checkMF m ≠ 0 by simpa using he)]
  have he : checkMF m = 0 := by simpa using he
  rw [if_neg (show ¬ checkMF m ≠ 0 by simpa using he)]
  have rm := right_of he
  have hml := rm.le
  have hmp := rm.pos
  replace hu := hu.up s1
  obtain ⟨b, off, bb, cc, rfl, hrd0, _⟩ := hu.at rm.pos
  rw [← wideM_get rm.pos] at hrd0
  conv => whnf
  refine dec_intro (by omega) ?_
  conv => whnf
  refine ⟨_, hrd0 _ _ (Sub.refl _), ?_⟩
  conv => whnf
  refine if_intro (fun hs => ?_) (fun hs => ?_)
  · conv => whnf
    rw [if_pos (show m.length ≠ wideM m from fun e => by rw [← e] at hs; simp at hs)]
  have hsq : m.length = wideM m := by
    have : ((m.length : Nat) : Int) = ((wideM m : Nat) : Int) := by simpa using hs
    omega
  rw [if_neg (show ¬ m.length ≠ wideM m by simpa using hsq)]
  have hD : DaggerMR m = (gridM (daggerAtR m) (wideM m) m.length, 0) := by rw [← DaggerM_eq]; exact dagger_ok he
  conv => whnf
  refine (c57 m _ _ hu).use fun r H2 s2 hr => ?_
  obtain ⟨_, d, rfl, hd⟩ := hr
  rw [hD] at hd ⊢
  dsimp only at hd
  replace hu := hu.up s2
  conv => whnf
  refine (c36 (gridM (daggerAtR m) (wideM m) m.length) m _ _ _ hd hu).use fun r H3 s3 hr => ?_
  obtain ⟨_, p, rfl, hp⟩ := hr
  change MatH H3 p (unitP m).1 at hp
  rw [show MulMR (gridM (daggerAtR m) (wideM m) m.length) m = unitP m from rfl]
  conv => whnf
  refine if_intro (fun h => ?_) (fun h => ?_)
  · conv => whnf
    rw [if_pos (show (unitP m).2 ≠ 0 by simpa using h)]
  have h2 : (unitP m).2 = 0 := by simpa using h
  rw [if_neg (show ¬ (unitP m).2 ≠ 0 by simpa using h2)]
  obtain ⟨p1, p2⟩ := unitP_ok he hsq h2
  obtain ⟨rp, pw⟩ := grid_right (mulAtR (gridM (daggerAtR m) (wideM m) m.length) m) rm.pos rm.le rm.pos rm.le
  rw [← p1] at rp pw
  have pl : (unitP m).1.length = m.length := by rw [p1]; exact (gridM_shape _ _ _).1
  clear p1 p2 hD hd
  generalize (unitP m).1 = P at *
  generalize m.length = n at *
  subst pl
  obtain ⟨pb, pc, rfl⟩ := hp.sl
  conv => whnf
  refine W_loop (pol := polL) Γok (Nat × PH) (fun i => i.1 ≤ P.length ∧ Sub H3 i.2 ∧ ∀ t, t < i.1 * P.length → okU P P.length t = true) (fun i => P.length - i.1) (fun i => [(9, .v (.int .i64 i.1))]) (fun _ => []) (fun i => i.2) (fun _ => emp) ⟨(0, H3), ⟨by simp, Sub.refl _, by simp⟩, rfl, rfl, ?_⟩ ?_
  · conv => whnf
    repeat (refine ⟨rfl, ?_⟩; conv => whnf)
    exact trivial
  · rintro ⟨i, H'⟩ ⟨h1, h2, h3⟩
    dsimp only at h1 h2 h3
    conv => whnf
    refine if_intro (fun h => ?_) (fun h => ?_)
    · have hi : i < P.length := by simpa using h
      obtain ⟨b, off, bb, cc, rfl, hrd, hn⟩ := (hp.up h2).at hi
      have hwi : P[i].length = P.length := by rw [rp.row _ (List.getElem_mem hi), pw]
      conv => whnf
      refine W_loopX (pol := polL) Γok (Nat × PH) (fun k => k.1 ≤ P.length ∧ Sub H' k.2 ∧ ∀ t, t < i * P.length + k.1 → okU P P.length t = true) (fun k => P.length - k.1) (fun e k => e = .exit 2 ∧ Sub H' k.2 ∧ ∀ t, t < (i + 1) * P.length → okU P P.length t = true) (fun k => [(10, .v (.int .i64 k.1))]) (fun _ => []) (fun k => k.2) (fun _ => emp) ⟨(0, H'), ⟨by simp, Sub.refl _, by simpa using h3⟩, rfl, rfl, ?_⟩ ?_ ?_
      · conv => whnf
        repeat (refine ⟨rfl, ?_⟩; conv => whnf)
        exact trivial
      · rintro ⟨k, H4⟩ ⟨k1, k2, k3⟩
        dsimp only at k1 k2 k3
        conv => whnf
        refine if_intro (fun h => ?_) (fun h => ?_)
        · have hk : k < P.length := by simpa using h
          obtain ⟨b1, off1, rfl, hx⟩ := hn.at (i := k) (by omega)
          have hent : entry P i k = P[i][k] := entry_get hi (by omega)
          have hok := okU_at (p := P) (i := i) hk
          rw [hent] at hok
          conv => whnf
          intro bw
          conv => whnf
          refine if_intro (fun hik => ?_) (fun hik => ?_)
          · have hik : i = k := by
              have : (i : Int) = k := by simpa using hik
              omega
            rw [if_pos hik] at hok
            conv => whnf
            refine W_draw (pol := polL) Γok mixes [(0, .pendO), (1, .pendO), (2, .pendO), (3, .pendO), (4, .pendO), (5, .pendO), (6, .pendO), (7, .pendO), (8, .pendO)] 64 (by kernel_rfl) rfl ?_
            conv => whnf
            refine dec_intro (by omega) ?_
            conv => whnf
            refine ⟨_, hrd _ _ k2, ?_⟩
            conv => whnf
            refine dec_intro (by omega) ?_
            conv => whnf
            refine ⟨_, hx _ _ k2, ?_⟩
            conv => whnf
            refine if_intro (fun hq => ?_) (fun hq => ?_)
            · have hq : eqN P[i][k] oneN = false := (Bool.not_eq_true' _).mp hq
              conv => whnf
              refine .inl ?_
              conv => whnf
              rw [isUnit_no hi hk (hok.trans hq)]
            · have hq : eqN P[i][k] oneN = true := (Bool.not_eq_false' ..).mp hq
              conv => whnf
              refine ⟨(k + 1, H4), ⟨hk, k2, fun t ht => ?_⟩, by dsimp only; omega, ?_⟩
              · rcases Nat.lt_or_ge t (i * P.length + k) with h | h
                · exact k3 t h
                · rw [show t = i * P.length + k by dsimp only at ht; omega, hok, hq]
              conv => whnf
              refine ⟨rfl, rfl, ?_⟩
              conv => whnf
              repeat (refine ⟨rfl, ?_⟩; conv => whnf)
              refine ⟨by show En.v (.int .i64 (IntKind.i64.wrap (k + 1))) = _; rw [wrap_id (by omega) (by omega)]; rfl, ?_⟩
              conv => whnf
              repeat (refine ⟨rfl, ?_⟩; conv => whnf)
              exact trivial
          · have hik : i ≠ k := by
              have : ¬ (i : Int) = k := by simpa using hik
              omega
            rw [if_neg hik] at hok
            conv => whnf
            refine W_draw (pol := polL) Γok mixes [(0, .pendO), (1, .pendO), (2, .pendO), (3, .pendO), (4, .pendO), (5, .pendO), (6, .pendO), (7, .pendO), (8, .pendO)] 64 (by kernel_rfl) rfl ?_
            conv => whnf
            refine dec_intro (by omega) ?_
            conv => whnf
            refine ⟨_, hrd _ _ k2, ?_⟩
            conv => whnf
            refine dec_intro (by omega) ?_
            conv => whnf
            refine ⟨_, hx _ _ k2, ?_⟩
            conv => whnf
            refine if_intro (fun hq => ?_) (fun hq => ?_)
            · have hq : eqN P[i][k] (P4.zero, 0) = false := (Bool.not_eq_true' _).mp hq
              conv => whnf
              refine .inl ?_
              conv => whnf
              rw [isUnit_no hi hk (hok.trans hq)]
            · have hq : eqN P[i][k] (P4.zero, 0) = true := (Bool.not_eq_false' ..).mp hq
              conv => whnf
              refine ⟨(k + 1, H4), ⟨hk, k2, fun t ht => ?_⟩, by dsimp only; omega, ?_⟩
              · rcases Nat.lt_or_ge t (i * P.length + k) with h | h
                · exact k3 t h
                · rw [show t = i * P.length + k by dsimp only at ht; omega, hok, hq]
              conv => whnf
              refine ⟨rfl, rfl, ?_⟩
              conv => whnf
              repeat (refine ⟨rfl, ?_⟩; conv => whnf)
              refine ⟨by show En.v (.int .i64 (IntKind.i64.wrap (k + 1))) = _; rw [wrap_id (by omega) (by omega)]; rfl, ?_⟩
              conv => whnf
              repeat (refine ⟨rfl, ?_⟩; conv => whnf)
              exact trivial
        · have hk : P.length = k := by
            have : ¬ k < P.length := by simpa using h
            omega
          conv => whnf
          refine .inr ⟨(k, H4), ⟨rfl, k2, ?_⟩, ?_⟩
          · rw [← hk] at k3
            rw [Nat.succ_mul]
            exact k3
          · conv => whnf
            refine ⟨rfl, rfl, ?_⟩
            conv => whnf
            repeat (refine ⟨rfl, ?_⟩; conv => whnf)
            exact trivial
      · rintro e ⟨k, H4⟩ ⟨rfl, k2, k3⟩
        dsimp only at k2 k3
        conv => whnf
        refine ⟨(i + 1, H4), ⟨hi, h2.trans k2, k3⟩, by dsimp only; omega, ?_⟩
        conv => whnf
        refine ⟨rfl, rfl, ?_⟩
        conv => whnf
        repeat (refine ⟨rfl, ?_⟩; conv => whnf)
        refine ⟨by show En.v (.int .i64 (IntKind.i64.wrap (i + 1))) = _; rw [wrap_id (by omega) (by omega)]; rfl, ?_⟩
        conv => whnf
        repeat (refine ⟨rfl, ?_⟩; conv => whnf)
        exact trivial
    · have hi : P.length = i := by
        have : ¬ i < P.length := by simpa using h
        omega
      conv => whnf
      rw [← hi] at h3
      rw [show isUnit P P.length = true from List.all_eq_true.2 fun t ht => h3 t (List.mem_range.1 ht)]

theorem c10 (m : Mx) (hlm : m.length < 9223372036854775808) (H : PH) (u : Value) (hu : MatH H u m) : Cl Tryz.prog 10 [u] H emp fun r _ _ => r = .bool true := by
  obtain ⟨base, cap, rfl⟩ := hu.sl
  refine Cl_of (pol := fun | 17 => .imm | _ => .loc) Γok Tryz.func10 (by kernel_rfl) rfl ?_
  conv => whnf
  intro b hb _
  conv => whnf
  have s1 := sub_ins H (.cells ⟨[.slice base m.length cap]⟩ 22 (0, 0)) hb
  refine (c13 [m] (by simp) (by simp; omega) _ _ (one_mats (ins_same _ _ _) (hu.up s1))).val fun H1 s2 => ?_
  conv => whnf
  refine if_intro (fun hg => ?_) (fun hg => ?_)
  · conv => whnf
    refine (c14 _).val fun H2 s3 => ?_
    conv => whnf
  obtain ⟨hm8, hmr⟩ := big_le hg m (by simp)
  have hu1 := (hu.up s1).up s2
  clear hu
  conv => whnf
  refine (c15' m _ _ hu1 (by omega) (fun r hr => by have := hmr r hr; omega)).use fun p H2 s3 hp => ?_
  obtain ⟨_, hp⟩ := hp
  replace hu1 := hu1.up s3
  conv => whnf
  refine (c57 m _ _ hu1).use fun r H3 s4 hr => ?_
  obtain ⟨_, w1, rfl, hw1⟩ := hr
  replace hu1 := hu1.up s4
  replace hp := hp.up s4
  conv => whnf
  refine (c58 m (by omega) _ _ hu1).val fun H4 s5 => ?_
  replace hu1 := hu1.up s5
  replace hp := hp.up s5
  replace hw1 := hw1.up s5
  conv => whnf
  intro b6
  conv => whnf
  refine (c59 m _ _ hu1).val fun H5 s6 => ?_
  replace hu1 := hu1.up s6
  replace hp := hp.up s6
  replace hw1 := hw1.up s6
  conv => whnf
  have k1 : OwnL emp emp [] := Sub.refl _
  have h53 := k1.call (c53 m (by omega) _ _ hp)
  rw [DaggerM_eq] at h53
  refine h53.mono fun r H6 O6 s7 hr => ?_
  obtain ⟨a1, rfl, k2⟩ := hr
  replace hu1 := hu1.up s7
  replace hp := hp.up s7
  replace hw1 := hw1.up s7
  clear h53 k1
  conv => whnf
  refine (c60 m (by omega) _ _ hp).val fun H7 s8 => ?_
  replace hu1 := hu1.up s8
  replace hp := hp.up s8
  replace hw1 := hw1.up s8
  conv => whnf
  intro b12
  conv => whnf
  refine (c61 m (by omega) _ _ hp).val fun H8 s9 => ?_
  replace hu1 := hu1.up s9
  replace hp := hp.up s9
  replace hw1 := hw1.up s9
  generalize DaggerMR m = D at *
  generalize TraceF m = T at *
  generalize UnitaryR m = U at *
  replace k2 : OwnL emp O6 [(a1, D.1)] := k2
  conv => whnf
  rw [bne_self_eq_false]
  conv => whnf
  rw [bne_self_eq_false]
  conv => whnf
  rw [bne_self_eq_false]
  conv => whnf
  refine (c23L k2 (by simp) hw1).mono fun r H9 O9 s10 hr => ?_
  obtain ⟨o1, rfl⟩ := hr
  replace k2 := k2.up o1
  conv => whnf
  rw [eqCells_nv T.1]
  conv => whnf
  have bq : (U.1 == U.1) = true := beq_self_eq_true U.1
  rw [bq]
  conv => whnf
  refine (c24L k2).mono fun r H10 O10 s11 k3 => ?_
  conv => whnf
  have hmr' : ∀ r ∈ m, r.length < 9223372036854775808 := fun r hr => by have := hmr r hr; omega
  refine (c23 m m _ _ _ (hp.up (s10.trans s11)) (hu1.up (s10.trans s11)) (by omega) hmr').val fun H11 s12 => ?_
  rw [eqM_refl]
  conv => whnf
  refine (c14 _).val fun H12 s13 => ?_
  conv => whnf
end Go.Proofs.YtbbjhegapilhpaaGreat

namespace Go.Proofs.YtbbjhegapilhpaaGreat
open Go.Proofs.YtbbjhegapilhpaaGreat.X Go.Proofs.YtbbjhegapilhpaaGreat.X.PH Go.ChangeShapes Go.WideShapes Go.ChangeAt Go.RowKit Go.Deep
set_option maxRecDepth 100000

theorem matrixTurns_lifted (os : Os) (started : os.Started) (H : Type) (enc : TypeId × Value → H) :
    ReturnsInHanded {} Tryz.checked os 10 .any (Rows.matrixTurnsSpec.pre6 enc Tryz.prog Tryz.f10 Rows.matrixTurnsRow.domain false) (Rows.matrixTurnsSpec.post enc Tryz.prog Tryz.f10 false true false false) := by
  refine returnsInHanded_of_change (C := Tryz.checked) own started (by kernel_rfl) Tryz.func10
    (ChangeSpec.witness6 (enc := enc) (C := Tryz.checked) false ⟨#[], #[.slice none 0 0], []⟩ 8 (by kernel_rfl) (by kernel_rfl) (by kernel_rfl) (by kernel_rfl)) ?_
  intro W base args ds gs before hval0 hW _ _
  have hval : ∀ (j : Nat) t v, Tryz.f10.params[j]? = some t → args[j]? = some v → Value.okWide Tryz.prog W .any base t v := hval0
  have hW' := hW
  obtain ⟨p, q, hA0, hV, rfl, _, _⟩ := hW
  have hA : DataW.TrodAll enc Tryz.prog W 0 (fun _ => true) true Tryz.f10.params.toList args.toList ds p := hA0
  rw [Tryz.params10] at hA hval
  obtain ⟨v0, d0, rfl, rfl, g0⟩ := trodAll_one hA
  obtain ⟨rfl, rfl⟩ := trodVars_none hV
  obtain ⟨a0, len0, cap0, rfl⟩ := okWide_slice Tryz.underlying22 (hval 0 22 v0 rfl rfl)
  obtain ⟨m0, h0, b0⟩ := open_mat g0
  clear hA0 hval0
  simp only [List.append_nil] at hW'
  have hlt : ∀ x ∈ p, x.block < W.heap.size := fun x hx => by simpa using hW'.lt x hx
  have hmax : maxLen = 9223372036854775807 := rfl
  rw [hmax] at b0
  have hc := c10 m0 (by omega) (heapP W) _ h0
  refine (Cl.calls hc).mono ?_
  rintro e W' ⟨v, rfl, hbel, rfl⟩
  have k0 := Below.trod (t := 22) laidOut (by kernel_rfl) (of_decide_eq_true (by kernel_rfl)) g0 hbel fun x hx => hlt x (by simp [hx])
  have hk := trodAll_mk1 k0
  refine ⟨_, rfl, [d0], [], p, [], p, [], hW', trodAll_mk1 (shut_bool Tryz.underlying4 _), hk, rfl, hbel.frame _, fun h => by cases h⟩

/-- MatrixTurns answers true for every input, and the input reads as it did. -/
theorem matrixTurns_holds : Rows.MatrixTurnsSaid :=
  OpenClaim.holds_of_wide 10 Tryz.f10 rfl rfl rfl rfl rfl rfl rfl ⟨rfl, rfl, rfl, rfl, rfl⟩ rfl rfl rfl rfl rfl (by kernel_rfl) Tryz.func10 (by kernel_rfl)
    (of_decide_eq_true (by kernel_rfl)) (by unfold Func.isWrapper; first | (rw [if_pos (by decide +kernel)]; kernel_rfl) | (rw [if_neg (by decide +kernel)]; exact ⟨rfl, rfl⟩))
    (fun os started H enc _ => matrixTurns_lifted os started H enc)
#print axioms matrixTurns_holds
end Go.Proofs.YtbbjhegapilhpaaGreat
