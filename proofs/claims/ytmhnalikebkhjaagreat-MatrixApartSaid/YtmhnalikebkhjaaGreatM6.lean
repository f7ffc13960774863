/- A logic for code of the model, proved sound, and what functions do that the laws on matrices come to; nothing is asked. Part 6. -/
import Derived.Test.YtmhnalikebkhjaaGreatM5

set_option linter.unusedVariables false
set_option linter.unusedSimpArgs false
set_option linter.unnecessarySimpa false


namespace Go.Proofs.YtmhnalikebkhjaaGreat
open Go.Proofs.YtmhnalikebkhjaaGreat.X Go.Proofs.YtmhnalikebkhjaaGreat.X.PH
set_option maxRecDepth 100000

/-! ### the Dagger -/
def daggerAt (m : Mx) (i k : Nat) : (P4 × Int) × Int := ConjF (entry m k i)
def DaggerMF (m : Mx) : Mx × Int := resM (checkMF m) (daggerAt m) (wideM m) m.length
theorem c128 (m : Mx) (i k : Nat) (hk : k < m.length) (hi : i < m[k].length) (H : PH) (u : Value) (bm : Nat) (t : TypeId) (hu : MatH H u m) (hbm : H bm = some (.cells ⟨[u]⟩ t (0, 0))) :
    Cl Tryz.prog 169 [place i k, .pointer (some ⟨bm, 0, none⟩)] H emp fun r _ _ => r = ne (ConjF m[k][i]) := by
  obtain ⟨base, cap, rfl⟩ := hu.sl
  obtain ⟨b, off, bb, cc, rfl, hrd, hn⟩ := hu.at hk
  obtain ⟨b1, off1, rfl, hx⟩ := hn.at hi
  refine Cl_of (pol := polL) Γok Tryz.func169 (by kernel_rfl) rfl ?_
  conv => whnf
  repeat (intro _; conv => whnf)
  refine W_draw (pol := polL) Γok mixes [(0, .pendO), (1, .pendO), (2, .pendO), (3, .pendO), (4, .pendO), (5, .pendO), (6, .pendO), (7, .pendO), (8, .pendO), (9, .lock), (10, .pendO), (11, .pendO), (12, .lock), (13, .pendO)] 17 (by kernel_rfl) rfl ?_
  conv => whnf
  refine ⟨_, Rd.whole hbm, ?_⟩
  conv => whnf
  refine dec_intro (by omega) ?_
  conv => whnf
  refine ⟨_, hrd _ _ (Sub.refl _), ?_⟩
  conv => whnf
  refine dec_intro (by omega) ?_
  conv => whnf
  refine ⟨_, hx _ _ (Sub.refl _), ?_⟩
  conv => whnf
  refine (c122 m[k][i] _).val fun H1 s1 => ?_
  conv => whnf
  rfl
theorem c53 (m : Mx) (hlm : m.length < 1000000) (H : PH) (u : Value) (hu : MatH H u m) : Cl Tryz.prog 124 [u] H emp fun r _ M' => OutO M' r (DaggerMF m) := by
  obtain ⟨base, cap, rfl⟩ := hu.sl
  refine Cl_of (pol := fun | 1 => .imm | _ => .loc) Γok Tryz.func124 (by kernel_rfl) rfl ?_
  conv => whnf
  intro bm hbm _
  conv => whnf
  have s1 := sub_ins H (.cells ⟨[.slice base m.length cap]⟩ 26 (0, 0)) hbm
  refine (c29 m _ _ hlm (hu.up s1)).val fun H2 s4 => ?_
  conv => whnf
  unfold DaggerMF
  refine if_intro (fun he => ?_) (fun he => ?_)
  · conv => whnf
    have he : checkMF m ≠ 0 := by simpa using he
    rw [resM_bad he]
    exact OutO.bad
  have he : checkMF m = 0 := by simpa using he
  have rm := right_of he
  have hu2 := (hu.up s1).up s4
  have hml := rm.le
  have hwl := rm.wle
  have hmp := rm.pos
  obtain ⟨bu, ou, ru, cu, rfl, hru, _⟩ := hu2.at rm.pos
  rw [← wideM_get rm.pos] at hru
  conv => whnf
  refine W_draw (pol := polL) Γok mixes [(0, .pendO), (1, .pendO), (2, .pendO), (3, .pendO), (4, .pendO), (5, .pendO), (6, .pendO), (7, .lock), (8, .pendO), (9, .pendO), (10, .pendO), (11, .pendO)] 20 (by kernel_rfl) rfl ?_
  conv => whnf
  refine dec_intro (by omega) ?_
  conv => whnf
  refine ⟨_, hru _ _ (Sub.refl _), ?_⟩
  conv => whnf
  refine (c81 (daggerAt m) (wideM m) m.length (by omega) (by omega) _ _ _ _ fun i k hi hk => ⟨169, [], [_], rfl, fun H' hs' => ?_⟩).mono fun r H4 M4 s6 hr => ?_
  · have r1 := rm.row _ (List.getElem_mem hk)
    unfold daggerAt
    rw [entry_get hk (by omega)]
    exact c128 m i k hk (by omega) H' _ _ _ (hu2.up hs') (hs' _ _ (s4 _ _ (ins_same _ _ _)))
  obtain ⟨y, rfl, hx⟩ := MadeE.out (by omega) (by omega) hr he
  conv => whnf
  exact ⟨y, rfl, hx⟩
def daggerAtR (m : Mx) (i k : Nat) : (P4 × Int) × Int := ((ConjR (entry m k i)).1, 0)
def DaggerMR (m : Mx) : Mx × Int := resM (checkMR m) (daggerAtR m) (wideM m) m.length
theorem c57 (m : Mx) (H : PH) (u : Value) (hu : MatH H u m) : Cl Tryz.prog 121 [u] H emp fun r H' _ => OutH H' r (DaggerMR m) := by
  obtain ⟨base, cap, rfl⟩ := hu.sl
  refine Cl_of (pol := (fun | 50 => .imm | _ => .loc)) Γok Tryz.func121 (by kernel_rfl) rfl ?_
  conv => whnf
  refine (c30 m _ _ hu).val fun H1 s1 => ?_
  conv => whnf
  unfold DaggerMR
  refine if_intro (fun he => ?_) (fun he => ?_)
  · conv => whnf
    have he : checkMR m ≠ 0 := by simpa using he
    rw [resM_bad he]
    exact OutH.bad
  have hA : checkMR m = 0 := by simpa using he
  have rm := right_of ((checkMF_checkMR m).trans hA)
  replace hu := hu.up s1
  obtain ⟨b, off, bb, cc, rfl, hrd0, _⟩ := hu.at rm.pos
  rw [← wideM_get rm.pos] at hrd0
  have hml := rm.le
  have hwl := rm.wle
  have hmp := rm.pos
  generalize hF : daggerAtR m = F
  conv => whnf
  refine dec_intro (by omega) ?_
  conv => whnf
  refine ⟨_, hrd0 _ _ (Sub.refl _), ?_⟩
  conv => whnf
  refine dec_intro (Int.le_refl _) ?_
  conv => whnf
  refine dec_intro (by omega) ?_
  conv => whnf
  refine dec_intro (by omega) ?_
  conv => whnf
  intro b0 hb0 _
  conv => whnf
  refine W_repart ?_
  refine W_loopX (pol := (fun | 50 => .imm | _ => .loc)) Γok (Nat × PH × List Value × PH) (fun i => i.1 ≤ (wideM m) ∧ Sub H1 i.2.1 ∧ firstErr (errsE F (wideM m) m.length) = firstErr ((errsE F (wideM m) m.length).drop (i.1 * m.length)) ∧ GridO i.2.1 i.2.2.2 b0 (wideM m) i.2.2.1 (gridM F i.1 m.length)) (fun i => (wideM m) - i.1)
    (fun e i => e = .exit 0 ∧ Sub H1 i.2.1 ∧ firstErr (errsE F (wideM m) m.length) = 0 ∧ GridO i.2.1 i.2.2.2 b0 (wideM m) i.2.2.1 (gridM F (wideM m) m.length)) (fun i => [(6, .v (.int .i64 i.1))]) (fun _ => []) (fun i => i.2.1) (fun i => i.2.2.2) ⟨(0, H1, [], ins emp b0 (.cells ⟨(List.replicate (wideM m) [Value.slice none 0 0]).flatten⟩ 43 (0, 0))), ⟨by simp, Sub.refl _, by simp, GridO.start b0 (wideM m) emp⟩, rfl, rfl, ?_⟩ ?_ ?_
  · conv => whnf
    repeat (refine ⟨rfl, ?_⟩; conv => whnf)
    exact trivial
  · rintro ⟨i, H', us, O'⟩ ⟨h1, h2, h3, h4⟩
    dsimp only at h1 h2 h3 h4
    conv => whnf
    refine if_intro (fun h => ?_) (fun h => ?_)
    · have hi : i < (wideM m) := by simpa using h
      have hus : us.length = i := by rw [h4.rows.1]; simp [gridM]

      conv => whnf
      refine W_repart ?_
      refine W_loopX (pol := (fun | 50 => .imm | _ => .loc)) Γok (Nat × PH × Value × PH) (fun k => k.1 ≤ m.length ∧ Sub H' k.2.1 ∧ firstErr (errsE F (wideM m) m.length) = firstErr ((errsE F (wideM m) m.length).drop (i * m.length + k.1)) ∧ GridC k.2.1 k.2.2.2 b0 (wideM m) us (gridM F i m.length) k.2.2.1 (gridRow F i k.1)) (fun k => m.length - k.1)
        (fun e k => e = .exit 2 ∧ Sub H' k.2.1 ∧ firstErr (errsE F (wideM m) m.length) = firstErr ((errsE F (wideM m) m.length).drop ((i + 1) * m.length)) ∧ GridC k.2.1 k.2.2.2 b0 (wideM m) us (gridM F i m.length) k.2.2.1 (gridRow F i m.length)) (fun k => [(7, .v (.int .i64 k.1))]) (fun _ => []) (fun k => k.2.1) (fun k => k.2.2.2) ⟨(0, H', .slice none 0 0, O'), ⟨by simp, Sub.refl _, h3, h4.next (by omega)⟩, rfl, rfl, ?_⟩ ?_ ?_
      · conv => whnf
        repeat (refine ⟨rfl, ?_⟩; conv => whnf)
        exact trivial
      · rintro ⟨k, H3, cur, O3⟩ ⟨k1, k2, k3, k4⟩
        dsimp only at k1 k2 k3 k4
        conv => whnf

        refine if_intro (fun h => ?_) (fun h => ?_)
        · have hk : k < m.length := by
            have : (k : Int) < ((m.length : Nat) : Int) := by simpa using h
            omega
          obtain ⟨b2, off2, bb2, cc2, hbe, hrd, hn⟩ := (hu.up h2).at hk
          cases hbe
          have hwk : m[k].length = wideM m := rm.row _ (List.getElem_mem hk)
          obtain ⟨b3, off3, rfl, hx⟩ := hn.at (i := i) (by omega)
          have hFik : F i k = ((ConjR m[k][i]).1, 0) := by
            rw [← hF]
            unfold daggerAtR
            rw [entry_get hk (by omega)]
          have he : (F i k).2 = 0 := by rw [hFik]
          have hF1 : (F i k).1 = (ConjR m[k][i]).1 := by rw [hFik]
          conv => whnf
          refine dec_intro (by omega) ?_
          conv => whnf
          refine ⟨_, hrd _ _ k2, ?_⟩
          conv => whnf
          refine dec_intro (by omega) ?_
          conv => whnf
          refine ⟨_, hx _ _ k2, ?_⟩
          conv => whnf
          refine (c116 m[k][i] _).val fun H4 s4 => ?_
          replace k4 := k4.up s4
          conv => whnf
          intro bx
          conv => whnf
          rw [← hF1]
          conv => whnf
          refine W_draw (pol := (fun | 50 => .imm | _ => .loc)) Γok mixes [(0, .pendH), (1, .pendH), (2, .pendO), (3, .pendO), (4, .pendO), (5, .pendO), (6, .pendO), (7, .lock), (8, .lock), (9, .pendO), (10, .lock)] 54 (by kernel_rfl) rfl ?_
          conv => whnf
          refine dec_intro (by omega) ?_
          conv => whnf
          refine ⟨_, k4.rd hus.symm, ?_⟩
          conv => whnf
          intro b5 hb5 hO5
          conv => whnf
          refine append_one' (xs := (gridRow F i k).map cellsOf) (y := cellsOf (F i k).1) k4.row rfl rfl (cellsOf_one _) ⟨_, _, _, rfl, rfl, Rd.whole (ins_same _ _ _)⟩ ?_ fun v2 O4 hO4 hkeep => ?_
          · simp [gridRow]
            omega
          obtain ⟨vb, vn, vc, rfl⟩ := OwnS.sl hO4
          conv => whnf
          refine dec_intro (by omega) ?_
          conv => whnf
          obtain ⟨cs, q1, q2, q3⟩ := k4.step (l' := gridRow F i (k + 1)) hus.symm (by rw [gridRow_succ, NumO, List.map_append]; exact hO4) hkeep
          refine ⟨cs, _, q1, q2, ?_⟩
          conv => whnf
          have s5 := sub_ins H4 (.cells ⟨cellsOf (F i k).1⟩ 36 (0, 0)) hb5
          refine ⟨(k + 1, ins H4 b5 (.cells ⟨cellsOf (F i k).1⟩ 36 (0, 0)), .slice vb vn vc, _), ⟨hk, k2.trans (s4.trans s5), ?_, q3.up s5⟩, by dsimp only; omega, ?_⟩
          · rw [k3, errsE_at hi hk, if_pos he]
          · conv => whnf
            refine ⟨rfl, rfl, ?_⟩
            conv => whnf
            repeat (refine ⟨rfl, ?_⟩; conv => whnf)
            refine ⟨by show En.v (.int .i64 (IntKind.i64.wrap (k + 1))) = _; rw [wrap_id (by omega) (by omega)]; rfl, ?_⟩
            conv => whnf
            repeat (refine ⟨rfl, ?_⟩; conv => whnf)
            exact trivial
        · have hk : m.length = k := by
            have : ¬ (k : Int) < ((m.length : Nat) : Int) := by simpa using h
            omega
          conv => whnf
          refine .inr ⟨(k, H3, cur, O3), ⟨rfl, k2, ?_, ?_⟩, ?_⟩
          · rw [k3, ← hk, Nat.succ_mul]
          · rw [← hk] at k4
            rw [← hk]
            exact k4
          · conv => whnf
            refine ⟨rfl, rfl, ?_⟩
            conv => whnf
            repeat (refine ⟨rfl, ?_⟩; conv => whnf)
            exact trivial
      · rintro e ⟨k, H3, cur, O3⟩ ⟨rfl, k2, k3, k4⟩
        dsimp only at k2 k3 k4
        refine .inr fun hd => ?_
        obtain ⟨H4, O4, rp, g4⟩ := k4.done hd
        refine ⟨H4, O4, rp, ?_⟩
        conv => whnf
        refine ⟨(i + 1, H4, us ++ [cur], O4), ⟨hi, h2.trans (k2.trans rp.sub), k3, ?_⟩, by dsimp only; omega, ?_⟩
        · rw [gridM_succ]; exact g4
        · conv => whnf
          refine ⟨rfl, rfl, ?_⟩
          conv => whnf
          repeat (refine ⟨rfl, ?_⟩; conv => whnf)
          refine ⟨by show En.v (.int .i64 (IntKind.i64.wrap (i + 1))) = _; rw [wrap_id (by omega) (by omega)]; rfl, ?_⟩
          conv => whnf
          repeat (refine ⟨rfl, ?_⟩; conv => whnf)
          exact trivial
    · have hi : (wideM m) = i := by
        have : ¬ (i : Int) < (((wideM m) : Nat) : Int) := by simpa using h
        omega
      conv => whnf
      refine .inr ⟨(i, H', us, O'), ⟨rfl, h2, ?_, ?_⟩, ?_⟩
      · rw [h3, ← hi, errsE_end]
      · rw [← hi] at h4
        rw [← hi]
        exact h4
      · conv => whnf
        refine ⟨rfl, rfl, ?_⟩
        conv => whnf
        repeat (refine ⟨rfl, ?_⟩; conv => whnf)
        exact trivial
  · rintro e ⟨i, H', us, O'⟩ ⟨rfl, h2, h3, h4⟩
    dsimp only at h2 h3 h4
    refine .inr fun hd => ?_
    obtain ⟨H4, O4, rp, g4⟩ := h4.mat hd (by rw [h4.rows.1]; simp [gridM])
    refine ⟨H4, O4, rp, ?_⟩
    conv => whnf
    rw [resM_ok hA h3]
    exact ⟨_, rfl, g4⟩
theorem DaggerM_eq (m : Mx) : DaggerMF m = DaggerMR m := by
  refine resM_congr (checkMF_checkMR m) fun h i k hi hk => ?_
  have he := entry_right h hk hi
  unfold daggerAt daggerAtR
  rw [← Conj_eq]
  unfold ConjF
  rw [if_pos he]
  have : (leastF (conjP (entry m k i).1) (entry m k i).2).2 = 0 := by
    have := congrArg Prod.snd (Conj_eq (entry m k i))
    unfold ConjF ConjR at this
    rw [if_pos he, if_neg (by rw [← checkF_checkR, he]; simp)] at this
    exact this
  exact Prod.ext rfl this

/-! ### sums -/
/-- The sum of some numbers, from the left to the right. -/
def sumG (f : P4 × Int → P4 × Int → (P4 × Int) × Int) : P4 × Int → List (P4 × Int) → (P4 × Int) × Int
  | o, [] => (o, 0)
  | o, x :: l => if (f o x).2 ≠ 0 then ((P4.zero, 0), (f o x).2) else sumG f (f o x).1 l
theorem sumG_step {f : P4 × Int → P4 × Int → (P4 × Int) × Int} {o : P4 × Int} {l : List (P4 × Int)} {i : Nat} (hi : i < l.length) :
    sumG f o (l.drop i) = if (f o l[i]).2 ≠ 0 then ((P4.zero, 0), (f o l[i]).2) else sumG f (f o l[i]).1 (l.drop (i + 1)) := by
  rw [List.drop_eq_getElem_cons hi]
  rfl
theorem fitsR_zero {p : P4} {k : Int} (h : (fitsR p k).2 ≠ 0) : (fitsR p k).1 = (P4.zero, 0) := by
  unfold fitsR at *
  split
  · rfl
  · rename_i h'; rw [if_neg h'] at h; exact absurd rfl h
theorem fitsR_right {p : P4} {k : Int} (h : (fitsR p k).2 = 0) : checkF (fitsR p k).1.1 (fitsR p k).1.2 = 0 := by
  unfold fitsR at *
  split
  · rename_i h'; rw [if_pos h'] at h; cases h
  · rename_i h'; rw [checkF_checkR]; simpa using h'
theorem AddR_zero {x y : P4 × Int} (h : (AddR x y).2 ≠ 0) : (AddR x y).1 = (P4.zero, 0) := by
  unfold AddR at *
  split
  · rfl
  · rename_i h'; rw [if_neg h'] at h; exact fitsR_zero h
theorem AddR_right {x y : P4 × Int} (h : (AddR x y).2 = 0) : checkF (AddR x y).1.1 (AddR x y).1.2 = 0 := by
  unfold AddR at *
  split
  · show checkF P4.zero 0 = 0
    decide
  · rename_i h'; rw [if_neg h'] at h; exact fitsR_right h
def SumF (l : List (P4 × Int)) : (P4 × Int) × Int := if errsF l ≠ 0 then ((P4.zero, 0), errsF l) else sumG AddF (P4.zero, 0) l
def SumR (l : List (P4 × Int)) : (P4 × Int) × Int := if errsR l ≠ 0 then ((P4.zero, 0), errsR l) else sumG AddR (P4.zero, 0) l
theorem Sum_eq (l : List (P4 × Int)) : SumF l = SumR l := by
  unfold SumF SumR
  rw [errs_same, show AddF = AddR from funext fun x => funext fun y => Add_eq x y]
theorem c131 (l : List (P4 × Int)) (hl : l.length < 1000000) (H : PH) (v : Value) (hv : NumH H v l) : Cl Tryz.prog 168 [v] H emp fun r _ _ => r = ne (SumR l) := by
  obtain ⟨base, cap, rfl, _⟩ := id hv
  refine Cl_of (pol := polL) Γok Tryz.func168 (by kernel_rfl) rfl ?_
  conv => whnf
  intro b2
  conv => whnf
  unfold SumR
  refine (c94 l _ _ hv (by omega)).val fun H1 s1 => ?_
  conv => whnf
  refine if_intro (fun he => ?_) (fun he => ?_)
  · conv => whnf
    rw [if_pos (show errsR l ≠ 0 by simpa using he)]
    rfl
  rw [if_neg (show ¬ errsR l ≠ 0 by simpa using he)]
  conv => whnf
  intro b5
  conv => whnf
  refine W_loop (pol := polL) Γok (Nat × PH × (P4 × Int) × Int) (fun i => i.1 ≤ l.length ∧ Sub H1 i.2.1 ∧ ((i.2.2.2 = 0 ∧ sumG AddR (P4.zero, 0) l = sumG AddR i.2.2.1 (l.drop i.1)) ∨ (i.2.2.2 ≠ 0 ∧ sumG AddR (P4.zero, 0) l = i.2.2))) (fun i => l.length - i.1) (fun i => [(7, .v (.int .i64 i.1)), (6, .v (.int .i64 i.2.2.2))]) (fun i => [(1, cellsOf i.2.2.1)]) (fun i => i.2.1) (fun _ => emp) ⟨(0, H1, (P4.zero, 0), 0), ⟨by simp, Sub.refl _, .inl ⟨rfl, by simp⟩⟩, rfl, rfl, ?_⟩ ?_
  · conv => whnf
    repeat (refine ⟨rfl, ?_⟩; conv => whnf)
    exact trivial
  · rintro ⟨i, H', o, e⟩ ⟨h1, h2, h3⟩
    dsimp only at h1 h2 h3
    conv => whnf
    refine if_intro (fun h => ?_) (fun h => ?_)
    · have hi : i < l.length := by simpa using h
      obtain ⟨b, off, rfl, hx⟩ := hv.at hi
      conv => whnf
      refine if_intro (fun h => ?_) (fun h => ?_)
      · have he : e = 0 := by simpa using h
        rcases h3 with ⟨_, h3⟩ | ⟨h3, _⟩
        rotate_left
        · exact absurd he h3
        rw [sumG_step hi] at h3
        conv => whnf
        refine W_draw (pol := polL) Γok mixes [(0, .pendO), (1, .pendO), (2, .pendO), (3, .pendO), (4, .pendO), (5, .lock), (6, .pendO), (7, .pendO), (8, .pendH), (9, .lock), (10, .pendO)] 35 (by kernel_rfl) rfl ?_
        conv => whnf
        refine dec_intro (by simpa using hi) ?_
        conv => whnf
        refine ⟨_, hx _ _ (s1.trans h2), ?_⟩
        conv => whnf
        refine (c105 o l[i] _).val fun H2 s2 => ?_
        conv => whnf
        refine ⟨(i + 1, H2, (AddR o l[i]).1, (AddR o l[i]).2), ⟨hi, h2.trans s2, ?_⟩, by dsimp only; omega, ?_⟩
        · dsimp only
          by_cases ha : (AddR o l[i]).2 = 0
          · rw [if_neg (by simpa using ha)] at h3
            exact .inl ⟨ha, h3⟩
          · rw [if_pos ha] at h3
            exact .inr ⟨ha, by rw [h3, AddR_zero ha]⟩
        · conv => whnf
          refine ⟨rfl, rfl, ?_⟩
          conv => whnf
          repeat (refine ⟨rfl, ?_⟩; conv => whnf)
          refine ⟨by show En.v (.int .i64 (IntKind.i64.wrap (i + 1))) = _; rw [wrap_id (by omega) (by omega)]; rfl, ?_⟩
          conv => whnf
          repeat (refine ⟨rfl, ?_⟩; conv => whnf)
          exact trivial
      · have he : e ≠ 0 := by simpa using h
        rcases h3 with ⟨h3, _⟩ | ⟨_, h3⟩
        · exact absurd h3 he
        conv => whnf
        rw [h3]
        rfl
    · have hi : l.length ≤ i := by simpa using h
      conv => whnf
      have h3' : sumG AddR (P4.zero, 0) l = (o, e) := by
        rcases h3 with ⟨h3, h4⟩ | ⟨_, h3⟩
        · rw [h4, List.drop_of_length_le hi, h3]; rfl
        · exact h3
      rw [h3']
      rfl
end Go.Proofs.YtmhnalikebkhjaaGreat


namespace Go.Proofs.YtmhnalikebkhjaaGreat
open Go.Proofs.YtmhnalikebkhjaaGreat.X Go.Proofs.YtmhnalikebkhjaaGreat.X.PH
set_option maxRecDepth 100000

theorem NumH.whole {H : PH} {base : Option Addr} {n cap : Nat} {l : List (P4 × Int)} (h : NumH H (.slice base n cap) l) : (base = none → l.length = 0) ∧ ∀ O a, base = some a → 0 < l.length → Rd H O a (l.length * 5) (cellsN l) := by
  obtain ⟨_, _, hv, h⟩ := h
  cases hv
  rcases h with ⟨h, _⟩ | ⟨b, off, c, t, fr, rfl, h2, h3⟩
  · exact ⟨fun _ => h, fun _ _ _ hp => by omega⟩
  · refine ⟨fun h => (by cases h), fun O a ha _ => ?_⟩
    cases ha
    rw [cellsN_length] at h3
    exact ⟨rfl, cellsN_length l, c, t, fr, .inl h2, h3⟩
theorem checks2_of {x y : P4 × Int} (hx : checkF x.1 x.2 = 0) (hy : checkF y.1 y.2 = 0) : checks2 x y = 0 := by
  unfold checks2 errsF
  simp [firstErr, hx, hy]
theorem c132 (l : List (P4 × Int)) (hl : l.length < 1000000) (H : PH) (v : Value) (hv : NumH H v l) : Cl Tryz.prog 170 [v] H emp fun r _ _ => r = ne (SumF l) := by
  obtain ⟨base, cap, rfl, _⟩ := id hv
  refine Cl_of (pol := polL) Γok Tryz.func170 (by kernel_rfl) rfl ?_
  conv => whnf
  intro b2
  conv => whnf
  refine dec_intro (Int.le_refl _) ?_
  conv => whnf
  refine dec_intro (by omega) ?_
  conv => whnf
  refine dec_intro (by omega) ?_
  conv => whnf
  intro bw hbw _
  conv => whnf
  unfold copyK
  refine ⟨some ⟨bw, 0, none⟩, l.length, l.length, base, l.length, cap, cellsN l, rfl, rfl, by rw [Nat.min_self, cellsN_length], cellsN_one l, (NumH.whole hv).1, fun a ha hp => ?_, fun h => (by cases h), fun a ha => ⟨bw, 0, (List.replicate l.length [Value.int .i64 0, .int .i64 0, .int .i64 0, .int .i64 0, .int .i64 0]).flatten, _, (by cases ha; rfl), ins_same _ _ _, by simp, ?_⟩⟩
  · rw [Nat.min_self] at hp ⊢
    exact (NumH.whole hv).2 _ a ha hp
  have ec : (List.replicate l.length [Value.int .i64 0, .int .i64 0, .int .i64 0, .int .i64 0, .int .i64 0]).flatten.take 0 ++ cellsN l ++ (List.replicate l.length [Value.int .i64 0, .int .i64 0, .int .i64 0, .int .i64 0, .int .i64 0]).flatten.drop (0 + min l.length l.length * 5) = cellsN l := by
    rw [Nat.min_self, List.take_zero, List.nil_append, List.drop_of_length_le (by simp), List.append_nil]
  rw [ec]
  have s1 := sub_ins H (.cells ⟨cellsN l⟩ 36 (0, 0)) hbw
  have hw : NumH (ins H bw (.cells ⟨cellsN l⟩ 36 (0, 0))) (.slice (some ⟨bw, 0, none⟩) l.length l.length) l := one_row (ins_same _ _ _) rfl
  have hc := c161 l _ _ hw (by omega)
  conv => whnf
  refine Cl.pub (ins_same _ _ _) (fun _ => ?_) hc.ent
  rw [show del (ins (ins emp bw _) bw _) bw = emp by funext n; unfold del ins emp; by_cases e : n = bw <;> simp [e]]
  unfold SumF
  refine hc.val fun H1 s2 => ?_
  replace hw := hw.up s2
  conv => whnf
  refine if_intro (fun he => ?_) (fun he => ?_)
  · conv => whnf
    rw [if_pos (show errsF l ≠ 0 by simpa using he)]
    rfl
  have he : errsF l = 0 := by simpa using he
  rw [if_neg (show ¬ errsF l ≠ 0 by simpa using he)]
  have hright : ∀ x ∈ l, checkF x.1 x.2 = 0 := fun x hx => firstErr_zero he _ (List.mem_map.2 ⟨x, hx, rfl⟩)
  clear hc hv
  conv => whnf
  intro b6
  conv => whnf
  refine W_loop (pol := polL) Γok (Nat × PH × (P4 × Int)) (fun i => i.1 ≤ l.length ∧ Sub H1 i.2.1 ∧ checkF i.2.2.1 i.2.2.2 = 0 ∧ sumG AddF (P4.zero, 0) l = sumG AddF i.2.2 (l.drop i.1)) (fun i => l.length - i.1) (fun i => [(26, .v (.int .i64 i.1))]) (fun i => [(1, cellsOf i.2.2)]) (fun i => i.2.1) (fun _ => emp) ⟨(0, H1, (P4.zero, 0)), ⟨by simp, Sub.refl _, show checkF P4.zero 0 = 0 by decide, by simp⟩, rfl, rfl, ?_⟩ ?_
  · conv => whnf
    repeat (refine ⟨rfl, ?_⟩; conv => whnf)
    exact trivial
  · rintro ⟨i, H', o⟩ ⟨h1, h2, h3, h4⟩
    dsimp only at h1 h2 h3 h4
    conv => whnf
    refine if_intro (fun h => ?_) (fun h => ?_)
    · have hi : i < l.length := by simpa using h
      obtain ⟨b, off, hb, hx⟩ := hw.at hi
      cases hb
      have hxi := hright _ (List.getElem_mem hi)
      have hck := checks2_of h3 hxi
      obtain ⟨k1, k2⟩ := maxI_bounds hck
      have hA : AddF o l[i] = addG (fun a b => wr (a + b)) o l[i] := by unfold AddF; rw [if_pos hck]
      rw [sumG_step hi] at h4
      conv => whnf
      refine dec_intro (by simpa using hi) ?_
      conv => whnf
      refine ⟨_, hx _ _ h2, ?_⟩
      conv => whnf
      intro b8
      conv => whnf
      refine W_draw (pol := polL) Γok mixes [(0, .pendO), (2, .pend), (1, .lock), (3, .lock), (4, .pendO), (5, .pendO), (6, .pendH), (7, .late), (8, .lock), (9, .pendO)] 44 (by kernel_rfl) rfl ?_
      conv => whnf
      refine (c151 o.1 o.2 _).val fun H2 s3 => ?_
      conv => whnf
      refine (c165 (fun a b => wr (a + b)) 152 c178 o l[i] k1 k2 _).val fun H3 s4 => ?_
      rw [← hA]
      conv => whnf
      intro b9
      conv => whnf
      refine if_intro (fun he => ?_) (fun he => ?_)
      · have he : (AddF o l[i]).2 ≠ 0 := by simpa using he
        rw [if_pos he] at h4
        conv => whnf
        rw [h4]
        rfl
      have he : (AddF o l[i]).2 = 0 := by simpa using he
      rw [if_neg (by simpa using he)] at h4
      conv => whnf
      refine ⟨(i + 1, H3, (AddF o l[i]).1), ⟨hi, h2.trans (s3.trans s4), ?_, h4⟩, by dsimp only; omega, ?_⟩
      · have hr := he
        dsimp only
        rw [Add_eq] at hr ⊢
        exact AddR_right hr
      conv => whnf
      refine ⟨rfl, rfl, ?_⟩
      conv => whnf
      repeat (refine ⟨rfl, ?_⟩; conv => whnf)
      refine ⟨by show En.v (.int .i64 (IntKind.i64.wrap (i + 1))) = _; rw [wrap_id (by omega) (by omega)]; rfl, ?_⟩
      conv => whnf
      repeat (refine ⟨rfl, ?_⟩; conv => whnf)
      exact trivial
    · have hi : l.length ≤ i := by simpa using h
      rw [List.drop_of_length_le hi] at h4
      conv => whnf
      rw [h4]
      rfl

/-! ### the trace -/
def diagL (m : Mx) (n : Nat) : List (P4 × Int) := (List.range n).map fun i => entry m i i
theorem diagL_succ (m : Mx) (n : Nat) : diagL m (n + 1) = diagL m n ++ [entry m n n] := by
  unfold diagL
  rw [List.range_succ, List.map_append]
  rfl
theorem diagL_len (m : Mx) (n : Nat) : (diagL m n).length = n := by simp [diagL]
def TraceF (m : Mx) : (P4 × Int) × Int := if checkMF m ≠ 0 then ((P4.zero, 0), checkMF m) else if m.length ≠ wideM m then ((P4.zero, 0), 7) else SumF (diagL m m.length)
theorem c60 (m : Mx) (hlm : m.length < 1000000) (H : PH) (u : Value) (hu : MatH H u m) : Cl Tryz.prog 125 [u] H emp fun r _ _ => r = ne (TraceF m) := by
  obtain ⟨base, cap, rfl⟩ := hu.sl
  refine Cl_of (pol := (fun | 30 => .imm | _ => .loc)) Γok Tryz.func125 (by kernel_rfl) rfl ?_
  conv => whnf
  intro b2
  conv => whnf
  unfold TraceF
  refine (c29 m _ _ hlm hu).val fun H1 s1 => ?_
  
  conv => whnf
  refine if_intro (fun he => ?_) (fun he => ?_)
  · conv => whnf
    rw [if_pos (show checkMF m ≠ 0 by simpa using he)]
    rfl
  have he : checkMF m = 0 := by simpa using he
  rw [if_neg (show ¬ checkMF m ≠ 0 by simpa using he)]
  have rm := right_of he
  have hml := rm.le
  have hmp := rm.pos
  replace hu := hu.up s1
  conv => whnf
  refine (c79 m rm.pos _ _ hu).val fun H2 s2 => ?_
  replace hu := hu.up s2
  conv => whnf
  refine if_intro (fun hs => ?_) (fun hs => ?_)
  · conv => whnf
    rw [if_pos (show m.length ≠ wideM m from fun e => by rw [← e] at hs; simp at hs)]
    rfl
  have hsq : m.length = wideM m := by
    have : ((m.length : Int) == (wideM m : Int)) = true := by simpa using hs
    have := eq_of_beq this
    omega
  rw [if_neg (show ¬ m.length ≠ wideM m by simpa using hsq)]
  conv => whnf
  refine W_repart ?_
  refine W_loopX (pol := (fun | 30 => .imm | _ => .loc)) Γok (Nat × PH × Value × PH) (fun i => i.1 ≤ m.length ∧ Sub H2 i.2.1 ∧ NumO i.2.2.2 i.2.2.1 (diagL m i.1)) (fun i => m.length - i.1) (fun e i => e = .exit 0 ∧ Sub H2 i.2.1 ∧ NumO i.2.2.2 i.2.2.1 (diagL m m.length)) (fun i => [(20, .v (.int .i64 i.1)), (5, .v i.2.2.1)]) (fun _ => []) (fun i => i.2.1) (fun i => i.2.2.2) ⟨(0, H2, .slice none 0 0, emp), ⟨by simp, Sub.refl _, ?_⟩, rfl, rfl, ?_⟩ ?_ ?_
  · exact ⟨by simp [diagL], .inl ⟨rfl, by simp [diagL]⟩⟩
  · conv => whnf
    repeat (refine ⟨rfl, ?_⟩; conv => whnf)
    exact trivial
  · rintro ⟨i, H', out, O'⟩ ⟨h1, h2, h3⟩
    dsimp only at h1 h2 h3
    conv => whnf
    refine if_intro (fun h => ?_) (fun h => ?_)
    · have hi : i < m.length := by simpa using h
      have hii : i < m[i].length := by rw [rm.row _ (List.getElem_mem hi)]; omega
      obtain ⟨b, off, bb, cc, hbe, hrd, hn⟩ := hu.at hi
      cases hbe
      obtain ⟨b1, off1, rfl, hx⟩ := hn.at hii
      have hent : entry m i i = m[i][i] := entry_get hi hii
      conv => whnf
      refine dec_intro (by omega) ?_
      conv => whnf
      refine ⟨_, hrd _ _ h2, ?_⟩
      conv => whnf
      refine dec_intro (by omega) ?_
      conv => whnf
      refine ⟨_, hx _ _ h2, ?_⟩
      conv => whnf
      intro b3 hb3 hO3
      conv => whnf
      refine append_one (xs := (diagL m i).map cellsOf) (y := cellsOf m[i][i]) h3 rfl rfl (cellsOf_one _) ⟨_, _, _, rfl, rfl, Rd.whole (ins_same _ _ _)⟩ ?_ fun v O2 hO2 hfr => ?_
      · simp only [List.length_map, diagL_len]
        omega
      conv => whnf
      refine ⟨(i + 1, ins H' b3 (.cells ⟨cellsOf m[i][i]⟩ 36 (0, 0)), v, O2), ⟨hi, h2.trans (sub_ins _ _ hb3), ?_⟩, by dsimp only; omega, ?_⟩
      · dsimp only
        rw [diagL_succ, hent, NumO, List.map_append]
        exact hO2
      · conv => whnf
        refine ⟨rfl, rfl, ?_⟩
        conv => whnf
        repeat (refine ⟨rfl, ?_⟩; conv => whnf)
        refine ⟨by show En.v (.int .i64 (IntKind.i64.wrap (i + 1))) = _; rw [wrap_id (by omega) (by omega)]; rfl, ?_⟩
        conv => whnf
        repeat (refine ⟨rfl, ?_⟩; conv => whnf)
        exact trivial
    · have hi : m.length = i := by
        have : ¬ i < m.length := by simpa using h
        omega
      conv => whnf
      rw [← hi] at h3
      refine .inr ⟨(i, H', out, O'), ⟨rfl, h2, h3⟩, rfl, rfl, ?_⟩
      conv => whnf
      repeat (refine ⟨rfl, ?_⟩; conv => whnf)
      exact trivial
  rintro e ⟨i, H', out, O'⟩ ⟨rfl, h2, h3⟩
  dsimp only at h2 h3
  refine .inr fun hd => ?_
  obtain ⟨H3, O3, rp, hn3⟩ := NumO.pub hd h3
  refine ⟨H3, O3, rp, ?_⟩
  conv => whnf
  refine (c132 (diagL m m.length) (by rw [diagL_len]; omega) H3 _ hn3).val fun H4 s4 => ?_
  
  conv => whnf
  rfl
theorem c58 (m : Mx) (hlm : m.length < 1000000) (H : PH) (u : Value) (hu : MatH H u m) : Cl Tryz.prog 122 [u] H emp fun r _ _ => r = ne (TraceF m) := by
  obtain ⟨base, cap, rfl⟩ := hu.sl
  refine Cl_of (pol := (fun | 35 => .imm | _ => .loc)) Γok Tryz.func122 (by kernel_rfl) rfl ?_
  conv => whnf
  intro b2
  conv => whnf
  unfold TraceF
  refine (c30 m _ _ hu).val fun H1 s1 => ?_
  rw [← checkMF_checkMR]
  conv => whnf
  refine if_intro (fun he => ?_) (fun he => ?_)
  · conv => whnf
    rw [if_pos (show checkMF m ≠ 0 by simpa using he)]
    rfl
  have he : checkMF m = 0 := by simpa using he
  rw [if_neg (show ¬ checkMF m ≠ 0 by simpa using he)]
  have rm := right_of he
  have hml := rm.le
  have hmp := rm.pos
  replace hu := hu.up s1
  obtain ⟨b, off, bb, cc, rfl, hrd0, _⟩ := hu.at rm.pos
  rw [← wideM_get rm.pos] at hrd0
  obtain ⟨H2, hH2⟩ : ∃ X, X = H1 := ⟨_, rfl⟩
  subst hH2
  conv => whnf
  refine dec_intro (by omega) ?_
  conv => whnf
  refine ⟨_, hrd0 _ _ (Sub.refl _), ?_⟩
  conv => whnf
  refine if_intro (fun hs => ?_) (fun hs => ?_)
  · conv => whnf
    rw [if_pos (show m.length ≠ wideM m from fun e => by rw [← e] at hs; simp at hs)]
    rfl
  have hsq : m.length = wideM m := by
    have : ((m.length : Nat) : Int) = ((wideM m : Nat) : Int) := by simpa using hs
    omega
  rw [if_neg (show ¬ m.length ≠ wideM m by simpa using hsq)]
  conv => whnf
  refine W_repart ?_
  refine W_loopX (pol := (fun | 35 => .imm | _ => .loc)) Γok (Nat × PH × Value × PH) (fun i => i.1 ≤ m.length ∧ Sub H2 i.2.1 ∧ NumO i.2.2.2 i.2.2.1 (diagL m i.1)) (fun i => m.length - i.1) (fun e i => e = .exit 0 ∧ Sub H2 i.2.1 ∧ NumO i.2.2.2 i.2.2.1 (diagL m m.length)) (fun i => [(6, .v (.int .i64 i.1)), (5, .v i.2.2.1)]) (fun _ => []) (fun i => i.2.1) (fun i => i.2.2.2) ⟨(0, H2, .slice none 0 0, emp), ⟨by simp, Sub.refl _, ?_⟩, rfl, rfl, ?_⟩ ?_ ?_
  · exact ⟨by simp [diagL], .inl ⟨rfl, by simp [diagL]⟩⟩
  · conv => whnf
    repeat (refine ⟨rfl, ?_⟩; conv => whnf)
    exact trivial
  · rintro ⟨i, H', out, O'⟩ ⟨h1, h2, h3⟩
    dsimp only at h1 h2 h3
    conv => whnf
    refine if_intro (fun h => ?_) (fun h => ?_)
    · have hi : i < m.length := by simpa using h
      have hii : i < m[i].length := by rw [rm.row _ (List.getElem_mem hi)]; omega
      obtain ⟨b, off, bb, cc, hbe, hrd, hn⟩ := hu.at hi
      cases hbe
      obtain ⟨b1, off1, rfl, hx⟩ := hn.at hii
      have hent : entry m i i = m[i][i] := entry_get hi hii
      conv => whnf
      refine dec_intro (by omega) ?_
      conv => whnf
      refine ⟨_, hrd _ _ h2, ?_⟩
      conv => whnf
      refine dec_intro (by omega) ?_
      conv => whnf
      refine ⟨_, hx _ _ h2, ?_⟩
      conv => whnf
      intro b3 hb3 hO3
      conv => whnf
      refine append_one (xs := (diagL m i).map cellsOf) (y := cellsOf m[i][i]) h3 rfl rfl (cellsOf_one _) ⟨_, _, _, rfl, rfl, Rd.whole (ins_same _ _ _)⟩ ?_ fun v O2 hO2 hfr => ?_
      · simp only [List.length_map, diagL_len]
        omega
      conv => whnf
      refine ⟨(i + 1, ins H' b3 (.cells ⟨cellsOf m[i][i]⟩ 36 (0, 0)), v, O2), ⟨hi, h2.trans (sub_ins _ _ hb3), ?_⟩, by dsimp only; omega, ?_⟩
      · dsimp only
        rw [diagL_succ, hent, NumO, List.map_append]
        exact hO2
      · conv => whnf
        refine ⟨rfl, rfl, ?_⟩
        conv => whnf
        repeat (refine ⟨rfl, ?_⟩; conv => whnf)
        refine ⟨by show En.v (.int .i64 (IntKind.i64.wrap (i + 1))) = _; rw [wrap_id (by omega) (by omega)]; rfl, ?_⟩
        conv => whnf
        repeat (refine ⟨rfl, ?_⟩; conv => whnf)
        exact trivial
    · have hi : m.length = i := by
        have : ¬ i < m.length := by simpa using h
        omega
      conv => whnf
      rw [← hi] at h3
      refine .inr ⟨(i, H', out, O'), ⟨rfl, h2, h3⟩, rfl, rfl, ?_⟩
      conv => whnf
      repeat (refine ⟨rfl, ?_⟩; conv => whnf)
      exact trivial
  rintro e ⟨i, H', out, O'⟩ ⟨rfl, h2, h3⟩
  dsimp only at h2 h3
  refine .inr fun hd => ?_
  obtain ⟨H3, O3, rp, hn3⟩ := NumO.pub hd h3
  refine ⟨H3, O3, rp, ?_⟩
  conv => whnf
  refine (c131 (diagL m m.length) (by rw [diagL_len]; omega) H3 _ hn3).val fun H4 s4 => ?_
  rw [← Sum_eq]
  conv => whnf
  rfl
end Go.Proofs.YtmhnalikebkhjaaGreat


namespace Go.Proofs.YtmhnalikebkhjaaGreat
open Go.Proofs.YtmhnalikebkhjaaGreat.X Go.Proofs.YtmhnalikebkhjaaGreat.X.PH
set_option maxRecDepth 100000

/-! ### What sums and products are, before they are brought into least form -/
theorem right_in {x : P4 × Int} (h : checkF x.1 x.2 = 0) : 0 ≤ x.2 ∧ x.2 ≤ 60 ∧ x.1.within 1073741824 := by
  have := checkF_range h
  exact ⟨this.1, this.2.1, (all_iff (by decide) (by decide)).1 this.2.2⟩
theorem in_right {x : P4 × Int} (h0 : 0 ≤ x.2) (h1 : x.2 ≤ 60) (h : x.1.within 1073741824) : checkF x.1 x.2 = 0 := by
  unfold checkF
  rw [show (decide (x.2 < 0) || decide (x.2 > 60)) = false by simp; omega, (all_iff (by decide) (by decide)).2 h]
  rfl
/-- The sum of two numbers that are brought to the same K. -/
def sumP (x y : P4 × Int) : P4 := pl (rz (max x.2 y.2 - x.2).toNat x.1) (rz (max x.2 y.2 - y.2).toNat y.1)
theorem Add_fits {x y : P4 × Int} (hx : checkF x.1 x.2 = 0) (hy : checkF y.1 y.2 = 0) : AddR x y = fitsR (sumP x y) (max x.2 y.2) ∧ (sumP x y).within 2305843009213693952 := by
  obtain ⟨x0, xk, wx⟩ := right_in hx
  obtain ⟨y0, yk, wy⟩ := right_in hy
  have hw : (sumP x y).within 2305843009213693952 := pl_within (rz_within wx (by omega)) (rz_within wy (by omega)) (by decide)
  refine ⟨?_, hw⟩
  rw [← Add_eq]
  unfold AddF
  rw [if_pos (checks2_of hx hy)]
  have mx : maxI x.2 y.2 = max x.2 y.2 := by unfold maxI; split <;> omega
  unfold addG raisedF
  rw [mx, wr_id (n := max x.2 y.2 - x.2) (by omega) (by omega), wr_id (n := max x.2 y.2 - y.2) (by omega) (by omega)]
  rw [raiseP_rz wx _ (by omega), raiseP_rz wy _ (by omega), opP_pl (rz_within wx (by omega)) (rz_within wy (by omega))]
  exact least_fits (fine_of hw) (by omega)
theorem Mul_fits {x y : P4 × Int} (hx : checkF x.1 x.2 = 0) (hy : checkF y.1 y.2 = 0) : MulR x y = fitsR (pz x.1 y.1) (x.2 + y.2) ∧ (pz x.1 y.1).fine := by
  obtain ⟨x0, xk, wx⟩ := right_in hx
  obtain ⟨y0, yk, wy⟩ := right_in hy
  refine ⟨?_, pz_fine wx wy⟩
  unfold MulR
  rw [errs_same, if_neg (show ¬ errsF [x, y] ≠ 0 from fun h => h (checks2_of hx hy)), wr_id (by omega) (by omega), product_pz wx wy]
/-- The conjugate's coefficients. -/
def cz (p : P4) : P4 := ⟨p.a, -p.d, -p.c, -p.b⟩
theorem cz_within {p : P4} {n : Int} (h : p.within n) : (cz p).within n := by
  unfold P4.within at *
  unfold cz
  dsimp only
  omega
theorem conjP_cz {p : P4} (h : p.within 1073741824) : conjP p = cz p := by
  unfold P4.within at h
  unfold conjP cz
  rw [wr_id (by omega) (by omega), wr_id (by omega) (by omega), wr_id (by omega) (by omega)]
  simp
theorem Conj_form {x : P4 × Int} (hx : checkF x.1 x.2 = 0) : ConjR x = (formR (cz x.1) x.2, 0) ∧ checkF (cz x.1) x.2 = 0 := by
  obtain ⟨x0, xk, wx⟩ := right_in hx
  refine ⟨?_, in_right (x := (cz x.1, x.2)) x0 xk (cz_within wx)⟩
  unfold ConjR
  rw [if_neg (by rw [← checkF_checkR, hx]; simp), conjP_cz wx]

/-! ### Least forms -/
theorem lowerR_endF : ∀ (k : Nat) (p : P4), p.fine → p.isZero = false → ((lowerR k p).2 = 0 ∨ evenR (lowerR k p).1 = false) ∧ (lowerR k p).1.isZero = false
  | 0, p, _, hz => ⟨.inl rfl, hz⟩
  | k + 1, p, h, hz => by
    unfold lowerR
    cases he : evenR p with
    | true =>
      simp only [if_true]
      obtain ⟨_, h2, h3, h4⟩ := half_fine h he
      rw [h2]
      refine lowerR_endF k (hf p) h3 ?_
      rw [← tw_zero, h4]
      exact hz
    | false =>
      simp only [Bool.false_eq_true, if_false]
      exact ⟨.inr he, hz⟩
theorem formR_idem {p : P4} {k : Int} (h : p.fine) (hk : 0 ≤ k) : formR (formR p k).1 (formR p k).2 = formR p k := by
  cases hz : p.isZero with
  | true =>
    have : p = P4.zero := isZero_eq hz
    subst this
    rfl
  | false =>
    rw [formR_eq hk hz]
    dsimp only
    obtain ⟨h1, h2⟩ := lowerR_endF k.toNat p h hz
    rw [formR_eq (Int.natCast_nonneg _) h2, Int.toNat_natCast, lowerR_stop h1]
/-- A right number in least form. -/
structure IsL (z : P4 × Int) : Prop where
  ok : checkF z.1 z.2 = 0
  form : formR z.1 z.2 = z
theorem IsL.least {z : P4 × Int} (h : IsL z) : LeastF z.1 z.2 = (z, 0) := by rw [LeastF_eq h.ok, h.form]
theorem fits_L {p : P4} {k : Int} (h : p.fine) (hk : 0 ≤ k) (he : (fitsR p k).2 = 0) : IsL (fitsR p k).1 := by
  refine ⟨fitsR_right he, ?_⟩
  unfold fitsR at *
  split
  · rfl
  · exact formR_idem h hk
theorem Add_errs {x y : P4 × Int} (h : (AddR x y).2 = 0) : checkF x.1 x.2 = 0 ∧ checkF y.1 y.2 = 0 := by
  unfold AddR at h
  split at h
  · rename_i h'; exact absurd h h'
  · rename_i h'
    rw [errs_same] at h'
    exact checks2_zero (by simpa [checks2] using h')
theorem Mul_errs {x y : P4 × Int} (h : (MulR x y).2 = 0) : checkF x.1 x.2 = 0 ∧ checkF y.1 y.2 = 0 := by
  unfold MulR at h
  split at h
  · rename_i h'; exact absurd h h'
  · rename_i h'
    rw [errs_same] at h'
    exact checks2_zero (by simpa [checks2] using h')
theorem Add_L {x y : P4 × Int} (h : (AddR x y).2 = 0) : IsL (AddR x y).1 := by
  obtain ⟨hx, hy⟩ := Add_errs h
  obtain ⟨e, hw⟩ := Add_fits hx hy
  have := right_in hx
  rw [e] at h ⊢
  exact fits_L (fine_of hw) (by omega) h
theorem Mul_L {x y : P4 × Int} (h : (MulR x y).2 = 0) : IsL (MulR x y).1 := by
  obtain ⟨hx, hy⟩ := Mul_errs h
  obtain ⟨e, hw⟩ := Mul_fits hx hy
  have := right_in hx
  have := right_in hy
  rw [e] at h ⊢
  exact fits_L hw (by omega) h
theorem form_L {p : P4} {k : Int} (h : checkF p k = 0) : IsL (formR p k) := ⟨(formR_right h).1, (formR_right h).2⟩
theorem Conj_L {x : P4 × Int} (h : checkF x.1 x.2 = 0) : IsL (ConjR x).1 := by
  obtain ⟨e, hc⟩ := Conj_form h
  rw [e]
  exact form_L hc
theorem zero_L : IsL (P4.zero, 0) := ⟨by decide, rfl⟩
theorem one_L : IsL oneN := ⟨by decide, rfl⟩
theorem dotStep_L {o z : P4 × Int} {f : Bool} {w : P4 × Int} (h : (dotStepR o z f w).2 = 0) : IsL (dotStepR o z f w).1 := by
  unfold dotStepR at *
  dsimp only at *
  by_cases hm : (MulR z w).2 = 0
  · rw [if_pos hm] at *
    cases f with
    | true =>
      simp only [if_true] at *
      rw [if_pos hm]
      exact Mul_L hm
    | false =>
      simp only [Bool.false_eq_true, if_false] at *
      by_cases ha : (AddR o (MulR z w).1).2 = 0
      · rw [if_pos ha]
        exact Add_L ha
      · rw [if_neg ha] at h
        exact absurd h ha
  · rw [if_neg hm] at *
    rw [if_neg hm] at h
    exact absurd h hm
theorem dotR_L {x y : Nat → P4 × Int} : ∀ n, (dotR x y n).2 = 0 → IsL (dotR x y n).1
  | 0, _ => zero_L
  | n + 1, h => by
    unfold dotR at *
    by_cases h' : (dotR x y n).2 = 0
    · rw [if_pos h'] at *
      exact dotStep_L h
    · rw [if_neg h'] at *
      exact absurd h h'

/-! ### The identity -/
theorem movedM_shape (t : Nat → Nat) (n : Nat) : ∀ k, (movedM t n k).length = n ∧ ∀ (i : Nat) (r : List (P4 × Int)), (movedM t n k)[i]? = some r → r.length = n
  | 0 => ⟨by simp [movedM], fun i r hr => by
    simp [movedM, List.getElem?_replicate] at hr
    rw [← hr.2]
    simp [zeros]⟩
  | k + 1 => setM_shape (movedM_shape t n k).1 (movedM_shape t n k).2 _ _ _
theorem movedM_entry {t : Nat → Nat} {n : Nat} (ht : ∀ k, k < n → t k < n) : ∀ k, k ≤ n → ∀ i j, i < n → j < n → entry (movedM t n k) i j = if j < k ∧ i = t j then oneN else (P4.zero, 0)
  | 0, _, i, j, hi, hj => by simp [movedM, entry, zeros, List.getElem?_replicate, hi, hj]
  | k + 1, hk, i, j, hi, hj => by
    obtain ⟨s1, s2⟩ := movedM_shape t n k
    show entry (setM (movedM t n k) (t k) k oneN) i j = _
    rw [entry_set s1 s2 _ (ht k (by omega)) (by omega), movedM_entry ht k (by omega) i j hi hj]
    by_cases e : j = k
    · subst e
      by_cases e' : i = t j
      · rw [if_pos ⟨e', rfl⟩, if_pos ⟨by omega, e'⟩]
      · rw [if_neg (fun h => e' h.1), if_neg (fun h => e' h.2), if_neg (fun h => e' h.2)]
    · rw [if_neg (fun h => e h.2)]
      by_cases e' : j < k ∧ i = t j
      · rw [if_pos e', if_pos ⟨by omega, e'.2⟩]
      · rw [if_neg e', if_neg (fun h => e' ⟨by omega, h.2⟩)]
theorem grid_right (F : Nat → Nat → (P4 × Int) × Int) {h w : Nat} (h1 : 0 < h) (h2 : h ≤ 64) (w1 : 0 < w) (w2 : w ≤ 64) : Right (gridM F h w) ∧ wideM (gridM F h w) = w := by
  obtain ⟨s1, s2⟩ := gridM_shape F h w
  have hw : wideM (gridM F h w) = w := by
    rw [wideM_get (by omega)]
    exact s2 0 _ (List.getElem?_eq_getElem _)
  refine ⟨⟨by omega, by omega, fun r hr => ?_, by omega, by omega⟩, hw⟩
  obtain ⟨i, hi⟩ := List.mem_iff_getElem?.1 hr
  rw [hw]
  exact s2 i r hi
theorem id_right {n : Nat} (h1 : 0 < n) (h2 : n ≤ 64) (t : Nat → Nat) : Right (movedM t n n) ∧ wideM (movedM t n n) = n := by
  obtain ⟨s1, s2⟩ := movedM_shape t n n
  have hw : wideM (movedM t n n) = n := by
    rw [wideM_get (by omega)]
    exact s2 0 _ (List.getElem?_eq_getElem _)
  refine ⟨⟨by omega, by omega, fun r hr => ?_, by omega, by omega⟩, hw⟩
  obtain ⟨i, hi⟩ := List.mem_iff_getElem?.1 hr
  rw [hw]
  exact s2 i r hi
/-- A matrix of right numbers is right. -/
theorem check_grid {m : Mx} (rm : Right m) (h : ∀ i k, i < m.length → k < wideM m → checkF (entry m i k).1 (entry m i k).2 = 0) : checkMF m = 0 := by
  rw [checkMF_checkMR]
  unfold checkMR
  rw [show (decide ((m.length : Int) < 1) || decide ((m.length : Int) > 64)) = false by have := rm.pos; have := rm.le; simp; omega]
  have hb : m.any (badRow m) = false := by
    rw [List.any_eq_false]
    intro r hr
    have h1 := rm.row r hr
    have h2 := rm.wpos
    have h3 := rm.wle
    unfold badRow
    have : (m.headD []).length = wideM m := rfl
    rw [this]
    simp
    omega
  rw [hb]
  simp only [Bool.false_eq_true, if_false]
  refine firstErr_all fun e he => ?_
  obtain ⟨r, hr, rfl⟩ := List.mem_map.1 he
  refine firstErr_all fun e he => ?_
  obtain ⟨x, hx, rfl⟩ := List.mem_map.1 he
  obtain ⟨i, hi, rfl⟩ := List.mem_iff_getElem.1 hr
  obtain ⟨k, hk, rfl⟩ := List.mem_iff_getElem.1 hx
  have := h i k hi (by rw [← rm.row _ hr]; exact hk)
  rw [entry_get hi hk] at this
  rw [← checkF_checkR]
  exact this
end Go.Proofs.YtmhnalikebkhjaaGreat


namespace Go.Proofs.YtmhnalikebkhjaaGreat
open Go.Proofs.YtmhnalikebkhjaaGreat.X Go.Proofs.YtmhnalikebkhjaaGreat.X.PH
set_option maxRecDepth 100000

/-! ### Numbers that are made of bytes -/
theorem u32_range (n : Int) : 0 ≤ IntKind.u32.wrap n ∧ IntKind.u32.wrap n < 4294967296 := by
  show 0 ≤ n % 4294967296 ∧ n % 4294967296 < 4294967296
  omega
/-- The cells of a store. -/
abbrev stC (v : Value) (n : Nat) (s : Int) : Obj := .cells ⟨[v, .int .i64 n, .int .u32 s]⟩ 52 (0, 0)
def BytesH (H : PH) (v : Value) (l : List Int) : Prop := SlH H v l.length (l.map fun x => .int .u8 x)
theorem BytesH.at {H : PH} {base : Option Addr} {n cap : Nat} {l : List Int} (h : BytesH H (.slice base n cap) l) {i : Nat} (hi : i < l.length) :
    ∃ b off, base = some ⟨b, off, none⟩ ∧ ∀ H' O, Sub H H' → Rd H' O ⟨b, off + i * 1, none⟩ 1 [.int .u8 l[i]] := by
  obtain ⟨_, _, hv, _⟩ := id h
  cases hv
  obtain ⟨b, off, hb, hrd⟩ := SlH.rd (O := emp) (sz := 1) h (by simp) hi
  have e : (List.take 1 (List.drop (i * 1) (l.map fun x => Value.int .u8 x))) = [.int .u8 l[i]] := by
    rw [Nat.mul_one, List.drop_eq_getElem_cons (by simpa using hi)]; simp
  rw [e] at hrd
  exact ⟨b, off, hb, fun _ _ hs => Rd_up hrd hs⟩
set_option maxHeartbeats 1000000 in
theorem c130 (v : Value) (l : List Int) (n : Nat) (s : Int) (hl : l.length ≤ 300) (hn : n < 4611686018427387904) (hs : 0 ≤ s ∧ s < 4294967296) (H O : PH) (b : Nat) (hv : BytesH H v l) (hO : O b = some (stC v n s)) :
    Cl Tryz.prog 76 [.pointer (some ⟨b, 0, none⟩)] H O fun r _ O' => ∃ x n' s', r = .int .u32 x ∧ (0 ≤ x ∧ x < 4294967296) ∧ n' ≤ n + 1 ∧ (0 ≤ s' ∧ s' < 4294967296) ∧ O' = ins O b (stC v n' s') := by
  obtain ⟨base, cap, rfl, _⟩ := id hv
  refine Cl_of (pol := polL) Γok Tryz.func76 (by kernel_rfl) rfl ?_
  conv => whnf
  obtain ⟨s1, hs1⟩ : ∃ x, x = IntKind.u32.wrap ((BitVec.ofInt IntKind.u32.bits s ^^^ BitVec.ofInt IntKind.u32.bits (IntKind.u32.wrap (s * 2 ^ min (13 : Int).toNat IntKind.u32.bits))).toNat : Nat) := ⟨_, rfl⟩
  obtain ⟨s2, hs2⟩ : ∃ x, x = IntKind.u32.wrap ((BitVec.ofInt IntKind.u32.bits s1 ^^^ BitVec.ofInt IntKind.u32.bits (s1.fdiv (2 ^ min (17 : Int).toNat IntKind.u32.bits))).toNat : Nat) := ⟨_, rfl⟩
  obtain ⟨s3, hs3⟩ : ∃ x, x = IntKind.u32.wrap ((BitVec.ofInt IntKind.u32.bits s2 ^^^ BitVec.ofInt IntKind.u32.bits (IntKind.u32.wrap (s2 * 2 ^ min (5 : Int).toNat IntKind.u32.bits))).toNat : Nat) := ⟨_, rfl⟩
  have r1 : 0 ≤ s1 ∧ s1 < 4294967296 := by rw [hs1]; exact u32_range _
  have r2 : 0 ≤ s2 ∧ s2 < 4294967296 := by rw [hs2]; exact u32_range _
  have r3 : 0 ≤ s3 ∧ s3 < 4294967296 := by rw [hs3]; exact u32_range _
  obtain ⟨O1, hO1⟩ : ∃ X, X = ins O b (stC (.slice base l.length cap) n s1) := ⟨_, rfl⟩
  obtain ⟨O2, hO2⟩ : ∃ X, X = ins O1 b (stC (.slice base l.length cap) n s2) := ⟨_, rfl⟩
  obtain ⟨O3, hO3⟩ : ∃ X, X = ins O2 b (stC (.slice base l.length cap) n s3) := ⟨_, rfl⟩
  have g1 : O1 b = some (stC (.slice base l.length cap) n s1) := by rw [hO1]; exact ins_same _ _ _
  have g2 : O2 b = some (stC (.slice base l.length cap) n s2) := by rw [hO2]; exact ins_same _ _ _
  have g3 : O3 b = some (stC (.slice base l.length cap) n s3) := by rw [hO3]; exact ins_same _ _ _
  refine W_draw (pol := polL) Γok mixes [(0, .pendO), (1, .pendO), (2, .pendO), (3, .pendO), (4, .pendO), (5, .pendO), (6, .pendO), (7, .pendO), (8, .pendO), (9, .pendO), (10, .pendO), (11, .pendO), (12, .lock)] 104 (by kernel_rfl) rfl ?_
  conv => whnf
  refine ⟨[.int .u32 s], ⟨rfl, rfl, _, _, _, .inr hO, rfl⟩, ?_⟩
  conv => whnf
  refine ⟨[.int .u32 s], ⟨rfl, rfl, _, _, _, .inr hO, rfl⟩, ?_⟩
  conv => whnf
  refine ⟨_, _, hO, by simp, ?_⟩
  rw [← hs1]
  rw [show ins O b (.cells ⟨List.take (0 + 2) [.slice base l.length cap, .int .i64 n, .int .u32 s] ++ [.int .u32 s1] ++ List.drop (0 + 2 + [Value.int .u32 s1].length) [.slice base l.length cap, .int .i64 n, .int .u32 s]⟩ 52 (0, 0)) = O1 from hO1.symm]
  conv => whnf
  refine W_draw (pol := polL) Γok mixes [(0, .pendO), (1, .pendO), (2, .pendO), (3, .pendO), (4, .pendO), (5, .pendO), (6, .pendO), (7, .pendO), (8, .pendO), (9, .pendO), (10, .pendO), (11, .pendO), (12, .lock)] 104 (by kernel_rfl) rfl ?_
  conv => whnf
  refine ⟨[.int .u32 s1], ⟨rfl, rfl, _, _, _, .inr g1, rfl⟩, ?_⟩
  conv => whnf
  refine ⟨[.int .u32 s1], ⟨rfl, rfl, _, _, _, .inr g1, rfl⟩, ?_⟩
  conv => whnf
  refine ⟨_, _, g1, by simp, ?_⟩
  rw [← hs2]
  rw [show ins O1 b (.cells ⟨List.take (0 + 2) [.slice base l.length cap, .int .i64 n, .int .u32 s1] ++ [.int .u32 s2] ++ List.drop (0 + 2 + [Value.int .u32 s2].length) [.slice base l.length cap, .int .i64 n, .int .u32 s1]⟩ 52 (0, 0)) = O2 from hO2.symm]
  conv => whnf
  refine W_draw (pol := polL) Γok mixes [(0, .pendO), (1, .pendO), (2, .pendO), (3, .pendO), (4, .pendO), (5, .pendO), (6, .pendO), (7, .pendO), (8, .pendO), (9, .pendO), (10, .pendO), (11, .pendO), (12, .lock)] 104 (by kernel_rfl) rfl ?_
  conv => whnf
  refine ⟨[.int .u32 s2], ⟨rfl, rfl, _, _, _, .inr g2, rfl⟩, ?_⟩
  conv => whnf
  refine ⟨[.int .u32 s2], ⟨rfl, rfl, _, _, _, .inr g2, rfl⟩, ?_⟩
  conv => whnf
  refine ⟨_, _, g2, by simp, ?_⟩
  rw [← hs3]
  rw [show ins O2 b (.cells ⟨List.take (0 + 2) [.slice base l.length cap, .int .i64 n, .int .u32 s2] ++ [.int .u32 s3] ++ List.drop (0 + 2 + [Value.int .u32 s3].length) [.slice base l.length cap, .int .i64 n, .int .u32 s2]⟩ 52 (0, 0)) = O3 from hO3.symm]
  conv => whnf
  refine ⟨[.int .u32 s3], ⟨rfl, rfl, _, _, _, .inr g3, rfl⟩, ?_⟩
  conv => whnf
  refine ⟨[.slice base l.length cap], ⟨rfl, rfl, _, _, _, .inr g3, rfl⟩, ?_⟩
  conv => whnf
  refine if_intro (fun h => ?_) (fun h => ?_)
  · have hp : 0 < l.length := by have := of_decide_eq_true h; omega
    have hq : (n : Int).tmod (l.length : Int) = ((n % l.length : Nat) : Int) := by rw [Int.tmod_eq_emod_of_nonneg (by omega)]; rfl
    have hlt : n % l.length < l.length := Nat.mod_lt _ hp
    obtain ⟨b1, off1, rfl, hx⟩ := hv.at hlt
    obtain ⟨s4, hs4⟩ : ∃ x, x = IntKind.u32.wrap (s3 + IntKind.u32.wrap (IntKind.u32.wrap l[n % l.length] + 1)) := ⟨_, rfl⟩
    have r4 : 0 ≤ s4 ∧ s4 < 4294967296 := by rw [hs4]; exact u32_range _
    obtain ⟨O4, hO4⟩ : ∃ X, X = ins O3 b (stC (.slice (some ⟨b1, off1, none⟩) l.length cap) n s4) := ⟨_, rfl⟩
    obtain ⟨O5, hO5⟩ : ∃ X, X = ins O4 b (stC (.slice (some ⟨b1, off1, none⟩) l.length cap) (n + 1) s4) := ⟨_, rfl⟩
    have g4 : O4 b = some (stC (.slice (some ⟨b1, off1, none⟩) l.length cap) n s4) := by rw [hO4]; exact ins_same _ _ _
    conv => whnf
    refine W_draw (pol := polL) Γok mixes [(0, .pendO), (1, .pendO), (2, .pendO), (3, .pendO), (4, .pendO), (5, .pendO), (6, .pendO), (7, .pendO), (8, .pendO), (9, .pendO), (10, .pendO), (11, .pendO), (12, .pendO), (13, .pendO), (14, .pendO), (15, .pendO), (16, .pendO), (17, .pendO), (18, .pendO), (19, .pendO), (20, .lock)] 104 (by kernel_rfl) rfl ?_
    conv => whnf
    refine ⟨[.slice (some ⟨b1, off1, none⟩) l.length cap], ⟨rfl, rfl, _, _, _, .inr g3, rfl⟩, ?_⟩
    conv => whnf
    refine ⟨[.int .i64 n], ⟨rfl, rfl, _, _, _, .inr g3, rfl⟩, ?_⟩
    conv => whnf
    refine ⟨[.slice (some ⟨b1, off1, none⟩) l.length cap], ⟨rfl, rfl, _, _, _, .inr g3, rfl⟩, ?_⟩
    conv => whnf
    refine dec_intro (by omega) ?_
    conv => whnf
    rw [hq]
    conv => whnf
    refine dec_intro (by omega) ?_
    conv => whnf
    refine ⟨_, hx _ _ (Sub.refl _), ?_⟩
    conv => whnf
    refine W_draw (pol := polL) Γok mixes [(0, .pendO), (1, .pendO), (2, .pendO), (3, .pendO), (4, .pendO), (5, .pendO), (6, .pendO), (7, .pendO), (8, .pendO), (9, .pendO), (10, .pendO), (11, .pendO), (12, .pendO), (13, .pendO), (14, .pendO), (15, .pendO), (16, .pendO), (17, .pendO), (18, .pendO), (19, .pendO), (20, .pendO), (21, .pendO), (22, .pendO), (23, .pendO), (24, .pendO), (25, .lock)] 104 (by kernel_rfl) rfl ?_
    conv => whnf
    refine ⟨[.int .u32 s3], ⟨rfl, rfl, _, _, _, .inr g3, rfl⟩, ?_⟩
    conv => whnf
    refine ⟨[.slice (some ⟨b1, off1, none⟩) l.length cap], ⟨rfl, rfl, _, _, _, .inr g3, rfl⟩, ?_⟩
    conv => whnf
    refine ⟨[.int .i64 n], ⟨rfl, rfl, _, _, _, .inr g3, rfl⟩, ?_⟩
    conv => whnf
    refine ⟨[.slice (some ⟨b1, off1, none⟩) l.length cap], ⟨rfl, rfl, _, _, _, .inr g3, rfl⟩, ?_⟩
    conv => whnf
    refine dec_intro (by omega) ?_
    conv => whnf
    rw [hq]
    conv => whnf
    refine dec_intro (by omega) ?_
    conv => whnf
    refine ⟨_, hx _ _ (Sub.refl _), ?_⟩
    conv => whnf
    refine ⟨_, _, g3, by simp, ?_⟩
    rw [← hs4]
    rw [show ins O3 b (.cells ⟨List.take (0 + 2) [.slice (some ⟨b1, off1, none⟩) l.length cap, .int .i64 n, .int .u32 s3] ++ [.int .u32 s4] ++ List.drop (0 + 2 + [Value.int .u32 s4].length) [.slice (some ⟨b1, off1, none⟩) l.length cap, .int .i64 n, .int .u32 s3]⟩ 52 (0, 0)) = O4 from hO4.symm]
    conv => whnf
    refine ⟨[.int .i64 n], ⟨rfl, rfl, _, _, _, .inr g4, rfl⟩, ?_⟩
    conv => whnf
    refine ⟨_, _, g4, by simp, ?_⟩
    rw [wrap_id (n := (n : Int) + 1) (by omega) (by omega)]
    conv => whnf
    refine ⟨_, n + 1, s4, rfl, u32_range _, Nat.le_refl _, r4, ?_⟩
    rw [hO4, hO3, hO2, hO1]
    show ins _ b _ = _
    simp only [ins_ins]
    rfl
  · conv => whnf
    refine ⟨_, n, s3, rfl, ?_, by omega, r3, ?_⟩
    · show 0 ≤ s3.fdiv 8 ∧ s3.fdiv 8 < 4294967296
      rw [Int.fdiv_eq_ediv_of_nonneg _ (by omega)]
      omega
    · rw [hO3, hO2, hO1]
      simp only [ins_ins]
end Go.Proofs.YtmhnalikebkhjaaGreat


namespace Go.Proofs.YtmhnalikebkhjaaGreat
open Go.Proofs.YtmhnalikebkhjaaGreat.X Go.Proofs.YtmhnalikebkhjaaGreat.X.PH
set_option maxRecDepth 100000

/-! ### A number's coefficients at a level: over the N-th power of r -/
def lv (N : Nat) (x : P4 × Int) : P4 := rz (N - x.2.toNat) x.1
theorem within_tw {p : P4} {M : Int} (h : (tw p).within M) : p.within M := by
  unfold P4.within at *
  unfold tw at h
  dsimp only at h
  omega
theorem within_rz {p : P4} {M : Int} : ∀ n, (rz n p).within M → p.within M
  | 0, h => h
  | n + 1, h => within_rz n (within_tw h)
theorem rz_zero : ∀ n, rz n P4.zero = P4.zero
  | 0 => rfl
  | n + 1 => by
    show tw (rz n P4.zero) = _
    rw [rz_zero n]
    rfl
theorem lowerR_backF : ∀ (k : Nat) (p : P4), p.fine → p = rz (k - (lowerR k p).2) (lowerR k p).1 ∧ (lowerR k p).2 ≤ k
  | 0, p, _ => ⟨rfl, Nat.le_refl _⟩
  | k + 1, p, h => by
    unfold lowerR
    cases he : evenR p with
    | false => simp only [Bool.false_eq_true, if_false]; exact ⟨by rw [Nat.sub_self]; rfl, Nat.le_refl _⟩
    | true =>
      simp only [if_true]
      obtain ⟨_, h2, h3, h4⟩ := half_fine h he
      rw [h2]
      obtain ⟨i1, i2⟩ := lowerR_backF k (hf p) h3
      refine ⟨?_, by omega⟩
      rw [show k + 1 - (lowerR k (hf p)).2 = (k - (lowerR k (hf p)).2) + 1 by omega]
      show p = tw (rz _ _)
      rw [← i1, h4]
/-- The least form has the same value. -/
theorem lv_form {p : P4} {k : Int} {N : Nat} (h : p.fine) (h0 : 0 ≤ k) (hN : k ≤ N) : lv N (formR p k) = lv N (p, k) ∧ 0 ≤ (formR p k).2 ∧ (formR p k).2 ≤ k := by
  cases hz : p.isZero with
  | true =>
    have : p = P4.zero := isZero_eq hz
    subst this
    refine ⟨?_, by show (0 : Int) ≤ 0; omega, by show (0 : Int) ≤ k; omega⟩
    show rz _ P4.zero = rz _ P4.zero
    rw [rz_zero, rz_zero]
  | false =>
    rw [formR_eq h0 hz]
    obtain ⟨h1, h2⟩ := lowerR_backF k.toNat p h
    refine ⟨?_, by dsimp only; omega, by dsimp only; omega⟩
    unfold lv
    dsimp only
    rw [Int.toNat_natCast]
    conv => rhs; rw [h1]
    rw [← rz_add]
    congr 1
    omega
/-- What fits is what is small at some level. -/
theorem fits_lv {p : P4} {k : Int} {N : Nat} (h : p.fine) (h0 : 0 ≤ k) (hN : k ≤ N) (h60 : N ≤ 60) (hw : (lv N (p, k)).within 1073741824) :
    (fitsR p k).2 = 0 ∧ IsL (fitsR p k).1 ∧ 0 ≤ (fitsR p k).1.2 ∧ (fitsR p k).1.2 ≤ k ∧ lv N (fitsR p k).1 = lv N (p, k) := by
  obtain ⟨e, e0, ek⟩ := lv_form h h0 hN
  have hr : checkF (formR p k).1 (formR p k).2 = 0 := in_right e0 (by omega) (by
    rw [← e] at hw
    exact within_rz _ hw)
  have hf : fitsR p k = (formR p k, 0) := by
    unfold fitsR
    rw [if_neg (by rw [← checkF_checkR, hr]; simp)]
  rw [hf]
  exact ⟨rfl, ⟨hr, formR_idem h h0⟩, e0, ek, e⟩
/-- A right number, not above a level, of a size there. -/
structure LV (N : Nat) (M : Int) (x : P4 × Int) : Prop where
  ok : checkF x.1 x.2 = 0
  le : x.2 ≤ N
  small : (lv N x).within M
theorem lv_sum {x y : P4 × Int} {N : Nat} (hx : 0 ≤ x.2) (hxN : x.2 ≤ N) (hy : 0 ≤ y.2) (hyN : y.2 ≤ N) : lv N (sumP x y, max x.2 y.2) = pl (lv N x) (lv N y) := by
  unfold lv sumP
  dsimp only
  rw [rz_pl, ← rz_add, ← rz_add]
  congr 2 <;> omega
theorem Add_lv {x y : P4 × Int} {N : Nat} {A B : Int} (hx : LV N A x) (hy : LV N B y) (h60 : N ≤ 60) (hAB : A + B ≤ 1073741824) :
    (AddR x y).2 = 0 ∧ IsL (AddR x y).1 ∧ LV N (A + B) (AddR x y).1 ∧ lv N (AddR x y).1 = pl (lv N x) (lv N y) := by
  obtain ⟨e, hw⟩ := Add_fits hx.ok hy.ok
  have rx := right_in hx.ok
  have ry := right_in hy.ok
  have hxl := hx.le
  have hyl := hy.le
  have hl := lv_sum rx.1 hxl ry.1 hyl
  have hs : (pl (lv N x) (lv N y)).within (A + B) := pl_within hx.small hy.small (Int.le_refl _)
  obtain ⟨f1, f2, f3, f4, f5⟩ := fits_lv (N := N) (fine_of hw) (k := max x.2 y.2) (by omega) (by omega) h60 (by rw [hl]; exact within_mono hs hAB)
  rw [e]
  rw [hl] at f5
  exact ⟨f1, f2, ⟨f2.ok, by omega, by rw [f5]; exact hs⟩, f5⟩

/-! ### The ring -/
theorem pz_tw_l (p q : P4) : pz (tw p) q = tw (pz p q) := by
  unfold pz tw
  apply P4.ext' <;> dsimp only <;> grind
theorem pz_tw_r (p q : P4) : pz p (tw q) = tw (pz p q) := by
  unfold pz tw
  apply P4.ext' <;> dsimp only <;> grind
theorem pz_rz (p q : P4) : ∀ a b, pz (rz a p) (rz b q) = rz (a + b) (pz p q)
  | 0, 0 => rfl
  | 0, b + 1 => by
    show pz (rz 0 p) (tw (rz b q)) = tw (rz (0 + b) (pz p q))
    rw [pz_tw_r, pz_rz p q 0 b]
  | a + 1, b => by
    show pz (tw (rz a p)) (rz b q) = _
    rw [pz_tw_l, pz_rz p q a b, show a + 1 + b = (a + b) + 1 by omega]
    rfl
theorem pz_within {p q : P4} {A B : Int} (hp : p.within A) (hq : q.within B) : (pz p q).within (4 * (A * B)) := by
  have key : ∀ x y : Int, (-A ≤ x ∧ x ≤ A) → (-B ≤ y ∧ y ≤ B) → -(A * B) ≤ x * y ∧ x * y ≤ A * B := by
    intro x y hx hy
    have hA : 0 ≤ A := by omega
    have h1 : x.natAbs * y.natAbs ≤ A.natAbs * B.natAbs := Nat.mul_le_mul (by omega) (by omega)
    have h2 : (x * y).natAbs ≤ (A * B).natAbs := by rw [Int.natAbs_mul, Int.natAbs_mul]; exact h1
    have h3 : 0 ≤ A * B := Int.mul_nonneg hA (by omega)
    omega
  obtain ⟨a1, a2, a3, a4⟩ := hp
  obtain ⟨b1, b2, b3, b4⟩ := hq
  have k11 := key _ _ a1 b1
  have k12 := key _ _ a1 b2
  have k13 := key _ _ a1 b3
  have k14 := key _ _ a1 b4
  have k21 := key _ _ a2 b1
  have k22 := key _ _ a2 b2
  have k23 := key _ _ a2 b3
  have k24 := key _ _ a2 b4
  have k31 := key _ _ a3 b1
  have k32 := key _ _ a3 b2
  have k33 := key _ _ a3 b3
  have k34 := key _ _ a3 b4
  have k41 := key _ _ a4 b1
  have k42 := key _ _ a4 b2
  have k43 := key _ _ a4 b3
  have k44 := key _ _ a4 b4
  unfold P4.within pz
  dsimp only
  clear key a1 a2 a3 a4 b1 b2 b3 b4
  generalize A * B = W at *
  generalize p.a * q.a = z11 at *
  generalize p.a * q.b = z12 at *
  generalize p.a * q.c = z13 at *
  generalize p.a * q.d = z14 at *
  generalize p.b * q.a = z21 at *
  generalize p.b * q.b = z22 at *
  generalize p.b * q.c = z23 at *
  generalize p.b * q.d = z24 at *
  generalize p.c * q.a = z31 at *
  generalize p.c * q.b = z32 at *
  generalize p.c * q.c = z33 at *
  generalize p.c * q.d = z34 at *
  generalize p.d * q.a = z41 at *
  generalize p.d * q.b = z42 at *
  generalize p.d * q.c = z43 at *
  generalize p.d * q.d = z44 at *
  refine ⟨⟨?_, ?_⟩, ⟨?_, ?_⟩, ⟨?_, ?_⟩, ⟨?_, ?_⟩⟩ <;> omega
theorem Mul_lv {x y : P4 × Int} {N M : Nat} {A B : Int} (hx : LV N A x) (hy : LV M B y) (h60 : N + M ≤ 60) (hAB : 4 * (A * B) ≤ 1073741824) :
    (MulR x y).2 = 0 ∧ IsL (MulR x y).1 ∧ LV (N + M) (4 * (A * B)) (MulR x y).1 ∧ lv (N + M) (MulR x y).1 = pz (lv N x) (lv M y) := by
  obtain ⟨e, hw⟩ := Mul_fits hx.ok hy.ok
  have rx := right_in hx.ok
  have ry := right_in hy.ok
  have hxl := hx.le
  have hyl := hy.le
  have hl : lv (N + M) (pz x.1 y.1, x.2 + y.2) = pz (lv N x) (lv M y) := by
    unfold lv
    dsimp only
    rw [pz_rz]
    congr 1
    omega
  have hs := pz_within hx.small hy.small
  obtain ⟨f1, f2, f3, f4, f5⟩ := fits_lv (N := N + M) hw (k := x.2 + y.2) (by omega) (by omega) h60 (by rw [hl]; exact within_mono hs hAB)
  rw [e]
  rw [hl] at f5
  exact ⟨f1, f2, ⟨f2.ok, by omega, by rw [f5]; exact hs⟩, f5⟩
theorem cz_tw (p : P4) : cz (tw p) = tw (cz p) := by
  unfold cz tw
  apply P4.ext' <;> dsimp only <;> omega
theorem cz_rz (p : P4) : ∀ n, cz (rz n p) = rz n (cz p)
  | 0 => rfl
  | n + 1 => by
    show cz (tw (rz n p)) = tw (rz n (cz p))
    rw [cz_tw, cz_rz p n]
theorem Conj_lv {x : P4 × Int} {N : Nat} {A : Int} (hx : LV N A x) : (ConjR x).2 = 0 ∧ IsL (ConjR x).1 ∧ LV N A (ConjR x).1 ∧ lv N (ConjR x).1 = cz (lv N x) := by
  obtain ⟨e, hc⟩ := Conj_form hx.ok
  have rx := right_in hx.ok
  have rc := right_in (x := (cz x.1, x.2)) hc
  have hxl := hx.le
  obtain ⟨f1, f2, f3⟩ := lv_form (N := N) (fine_of (within_mono rc.2.2 (by decide))) rx.1 hxl
  have hL := Conj_L hx.ok
  rw [e] at hL ⊢
  have hl : lv N (formR (cz x.1) x.2) = cz (lv N x) := by
    rw [f1]
    unfold lv
    rw [cz_rz]
  have f3' : (formR (cz x.1) x.2).2 ≤ x.2 := f3
  exact ⟨rfl, hL, ⟨hL.ok, Int.le_trans f3' hxl, by rw [hl]; exact cz_within hx.small⟩, hl⟩
theorem tw_inj {p q : P4} (h : tw p = tw q) : p = q := by
  unfold tw at h
  injection h with h1 h2 h3 h4
  apply P4.ext' <;> omega
theorem rz_inj {p q : P4} : ∀ n, rz n p = rz n q → p = q
  | 0, h => h
  | n + 1, h => rz_inj n (tw_inj h)
theorem evenR_tw (q : P4) : evenR (tw q) = true := by
  rw [evenR_iff]
  unfold tw
  dsimp only
  omega
theorem IsL.odd {x : P4 × Int} (h : IsL x) (hz : x.1.isZero = false) : x.2 = 0 ∨ evenR x.1 = false := by
  obtain ⟨h0, h1, h2⟩ := right_in h.ok
  have hf := h.form
  rw [formR_eq h0 hz] at hf
  rcases Int.lt_or_eq_of_le h0 with hp | hp
  rotate_left
  · exact .inl hp.symm
  refine .inr ?_
  cases he : evenR x.1 with
  | false => rfl
  | true =>
    exfalso
    have e2 := congrArg Prod.snd hf
    dsimp only at e2
    obtain ⟨k, hk⟩ : ∃ k, x.2.toNat = k + 1 := ⟨x.2.toNat - 1, by omega⟩
    rw [hk] at e2
    unfold lowerR at e2
    rw [he] at e2
    simp only [if_true] at e2
    have := lowerR_le k (halvedR x.1)
    omega
theorem IsL.zero {x : P4 × Int} (h : IsL x) (hz : x.1.isZero = true) : x = (P4.zero, 0) := by
  have hf := h.form
  unfold formR at hf
  rw [hz] at hf
  simp only [if_true] at hf
  exact hf.symm
/-- Numbers in least form are the same if their values are. -/
theorem IsL.ext {x y : P4 × Int} {N : Nat} (hx : IsL x) (hy : IsL y) (hxN : x.2 ≤ N) (hyN : y.2 ≤ N) (h : lv N x = lv N y) : x = y := by
  obtain ⟨x0, x1, x2⟩ := right_in hx.ok
  obtain ⟨y0, y1, y2⟩ := right_in hy.ok
  have key : ∀ {u v : P4 × Int}, IsL u → IsL v → 0 ≤ u.2 → v.2 ≤ N → u.2 ≤ v.2 → lv N u = lv N v → u = v := by
    intro u v hu hv u0 hvN huv huv'
    have e : rz (v.2.toNat - u.2.toNat) u.1 = v.1 := by
      apply rz_inj (N - v.2.toNat)
      rw [← rz_add]
      unfold lv at huv'
      rw [← huv']
      congr 1
      omega
    cases hz : v.1.isZero with
    | true =>
      have h1 : u.1.isZero = true := by
        rw [← rz_isZero (v.2.toNat - u.2.toNat), e, hz]
      rw [hu.zero h1, hv.zero hz]
    | false =>
      rcases hv.odd hz with h1 | h1
      · have : u.2 = v.2 := by omega
        rw [this, Nat.sub_self] at e
        exact Prod.ext e this
      · rcases Int.lt_or_eq_of_le huv with hlt | heq
        · exfalso
          rw [show v.2.toNat - u.2.toNat = (v.2.toNat - u.2.toNat - 1) + 1 by omega] at e
          have : evenR v.1 = true := by rw [← e]; exact evenR_tw _
          rw [h1] at this
          cases this
        · rw [heq, Nat.sub_self] at e
          exact Prod.ext e heq
  rcases Int.le_total x.2 y.2 with hle | hle
  · exact key hx hy x0 hyN hle h
  · exact (key hy hx y0 hxN hle h.symm).symm
end Go.Proofs.YtmhnalikebkhjaaGreat


namespace Go.Proofs.YtmhnalikebkhjaaGreat
open Go.Proofs.YtmhnalikebkhjaaGreat.X Go.Proofs.YtmhnalikebkhjaaGreat.X.PH
set_option maxRecDepth 100000

/-! ### Sums in the ring -/
theorem pl_comm (p q : P4) : pl p q = pl q p := by unfold pl; apply P4.ext' <;> dsimp only <;> omega
theorem pl_assoc (p q r : P4) : pl (pl p q) r = pl p (pl q r) := by unfold pl; apply P4.ext' <;> dsimp only <;> omega
theorem pl_zero (p : P4) : pl p P4.zero = p := by unfold pl P4.zero; apply P4.ext' <;> dsimp only <;> omega
theorem zero_pl (p : P4) : pl P4.zero p = p := by unfold pl P4.zero; apply P4.ext' <;> dsimp only <;> omega
theorem pz_comm (p q : P4) : pz p q = pz q p := by unfold pz; apply P4.ext' <;> dsimp only <;> grind
theorem pz_assoc (p q r : P4) : pz (pz p q) r = pz p (pz q r) := by unfold pz; apply P4.ext' <;> dsimp only <;> grind
theorem pz_pl (p q r : P4) : pz p (pl q r) = pl (pz p q) (pz p r) := by unfold pz pl; apply P4.ext' <;> dsimp only <;> grind
theorem pl_pz (p q r : P4) : pz (pl p q) r = pl (pz p r) (pz q r) := by rw [pz_comm, pz_pl, pz_comm r p, pz_comm r q]
theorem pz_zero (p : P4) : pz p P4.zero = P4.zero := by unfold pz P4.zero; apply P4.ext' <;> dsimp only <;> omega
theorem zero_pz (p : P4) : pz P4.zero p = P4.zero := by rw [pz_comm, pz_zero]
theorem cz_pl (p q : P4) : cz (pl p q) = pl (cz p) (cz q) := by unfold cz pl; apply P4.ext' <;> dsimp only <;> omega
theorem cz_pz (p q : P4) : cz (pz p q) = pz (cz p) (cz q) := by unfold cz pz; apply P4.ext' <;> dsimp only <;> grind
theorem cz_cz (p : P4) : cz (cz p) = p := by unfold cz; apply P4.ext' <;> dsimp only <;> omega
theorem pl4 (a b c d : P4) : pl (pl a b) (pl c d) = pl (pl a c) (pl b d) := by unfold pl; apply P4.ext' <;> dsimp only <;> omega
def su (f : Nat → P4) : Nat → P4
  | 0 => P4.zero
  | n + 1 => pl (su f n) (f n)
theorem su_congr {f g : Nat → P4} : ∀ n, (∀ i, i < n → f i = g i) → su f n = su g n
  | 0, _ => rfl
  | n + 1, h => by
    show pl _ _ = pl _ _
    rw [su_congr n fun i hi => h i (by omega), h n (by omega)]
theorem su_pl (f g : Nat → P4) : ∀ n, su (fun i => pl (f i) (g i)) n = pl (su f n) (su g n)
  | 0 => rfl
  | n + 1 => by
    show pl _ _ = pl (pl _ _) (pl _ _)
    rw [su_pl f g n, pl4]
theorem su_zero : ∀ n, su (fun _ => P4.zero) n = P4.zero
  | 0 => rfl
  | n + 1 => by
    show pl _ _ = _
    rw [su_zero n]
    rfl
theorem pz_su (c : P4) (f : Nat → P4) : ∀ n, pz c (su f n) = su (fun i => pz c (f i)) n
  | 0 => pz_zero c
  | n + 1 => by
    show pz c (pl _ _) = pl _ _
    rw [pz_pl, pz_su c f n]
theorem su_pz (c : P4) (f : Nat → P4) (n : Nat) : pz (su f n) c = su (fun i => pz (f i) c) n := by
  rw [pz_comm, pz_su]
  exact su_congr n fun i _ => pz_comm _ _
theorem cz_su (f : Nat → P4) : ∀ n, cz (su f n) = su (fun i => cz (f i)) n
  | 0 => rfl
  | n + 1 => by
    show cz (pl _ _) = pl _ _
    rw [cz_pl, cz_su f n]
theorem su_swap (f : Nat → Nat → P4) (m : Nat) : ∀ n, su (fun i => su (fun j => f i j) m) n = su (fun j => su (fun i => f i j) n) m
  | 0 => by
    show P4.zero = su (fun _ => P4.zero) m
    rw [su_zero]
  | n + 1 => by
    show pl _ _ = su (fun j => pl (su (fun i => f i j) n) (f n j)) m
    rw [su_swap f m n, su_pl]
/-- The sum over two indexes that are one. -/
theorem su_mul (f : Nat → P4) (w : Nat) : ∀ h, su f (h * w) = su (fun i => su (fun k => f (i * w + k)) w) h
  | 0 => by rw [Nat.zero_mul]; rfl
  | h + 1 => by
    have key : ∀ n, su f (h * w + n) = pl (su f (h * w)) (su (fun k => f (h * w + k)) n) := by
      intro n
      induction n with
      | zero => exact (pl_zero _).symm
      | succ n ih =>
        show pl (su f (h * w + n)) _ = pl _ (pl _ _)
        rw [ih, pl_assoc]
        rfl
    rw [Nat.succ_mul, key w, su_mul f w h]
    rfl

/-! ### Sums of products -/
theorem LV.mono {N : Nat} {A B : Int} {x : P4 × Int} (h : LV N A x) (hAB : A ≤ B) : LV N B x := ⟨h.ok, h.le, within_mono h.small hAB⟩
theorem zero_LV (N : Nat) : LV N 0 (P4.zero, 0) := ⟨by decide, by show (0 : Int) ≤ N; omega, by
  show (rz _ P4.zero).within 0
  rw [rz_zero]
  unfold P4.within P4.zero
  simp⟩
theorem lv_zero (N : Nat) : lv N (P4.zero, 0) = P4.zero := rz_zero _
theorem dot_lv {x y : Nat → P4 × Int} {N M : Nat} {A B : Int} (h60 : N + M ≤ 60) (hAB : 0 ≤ A * B) : ∀ n : Nat, (∀ i, i < n → LV N A (x i)) → (∀ i, i < n → LV M B (y i)) → n * (4 * (A * B)) ≤ 1073741824 →
    (dotR x y n).2 = 0 ∧ IsL (dotR x y n).1 ∧ LV (N + M) (n * (4 * (A * B))) (dotR x y n).1 ∧ lv (N + M) (dotR x y n).1 = su (fun i => pz (lv N (x i)) (lv M (y i))) n
  | 0, _, _, _ => ⟨rfl, zero_L, by have := zero_LV (N + M); simpa [dotR] using this, lv_zero _⟩
  | n + 1, hx, hy, hb => by
    have e4 : ((n + 1 : Nat) : Int) * (4 * (A * B)) = n * (4 * (A * B)) + 4 * (A * B) := by
      rw [Int.natCast_add, Int.add_mul]
      simp
    rw [e4] at hb ⊢
    have hn0 : 0 ≤ (n : Int) * (4 * (A * B)) := Int.mul_nonneg (by omega) (by omega)
    obtain ⟨i1, i2, i3, i4⟩ := dot_lv h60 hAB n (fun i hi => hx i (by omega)) (fun i hi => hy i (by omega)) (by omega)
    obtain ⟨m1, m2, m3, m4⟩ := Mul_lv (hx n (by omega)) (hy n (by omega)) h60 (by omega)
    have e : dotR x y (n + 1) = if (dotR x y n).2 = 0 then dotStepR (dotR x y n).1 (x n) (decide (n = 0)) (y n) else dotR x y n := rfl
    rw [e, if_pos i1]
    unfold dotStepR
    dsimp only
    rw [if_pos m1]
    by_cases h0 : n = 0
    · subst h0
      simp only [decide_true, if_true]
      rw [if_pos m1]
      refine ⟨rfl, m2, m3.mono (by omega), ?_⟩
      show _ = pl P4.zero _
      rw [zero_pl]
      exact m4
    · rw [decide_eq_false h0]
      simp only [Bool.false_eq_true, if_false]
      obtain ⟨a1, a2, a3, a4⟩ := Add_lv i3 m3 h60 hb
      rw [if_pos a1]
      refine ⟨rfl, a2, a3, ?_⟩
      show _ = pl (su _ n) (pz (lv N (x n)) (lv M (y n)))
      rw [← i4, ← m4]
      exact a4

/-! ### Matrices at a level -/
def ev (N : Nat) (m : Mx) (i k : Nat) : P4 := lv N (entry m i k)
structure MV (N : Nat) (A : Int) (m : Mx) (h w : Nat) : Prop where
  right : Right m
  len : m.length = h
  wid : wideM m = w
  el : ∀ i k, i < h → k < w → LV N A (entry m i k)
def ML (m : Mx) : Prop := ∀ i k, i < m.length → k < wideM m → IsL (entry m i k)
theorem MV.check {N : Nat} {A : Int} {m : Mx} {h w : Nat} (v : MV N A m h w) : checkMF m = 0 :=
  check_grid v.right fun i k hi hk => (v.el i k (by rw [← v.len]; exact hi) (by rw [← v.wid]; exact hk)).ok
theorem MV.errs {N M : Nat} {A B : Int} {m n : Mx} {h w h' w' : Nat} (v : MV N A m h w) (u : MV M B n h' w') : errsM [m, n] = 0 := by
  unfold errsM
  simp [firstErr, v.check, u.check]
/-- Matrices in least form are the same if their values are. -/
theorem mx_ext {p q : Mx} {h w N : Nat} {A B : Int} (hp : MV N A p h w) (hq : MV N B q h w) (lp : ML p) (lq : ML q) (he : ∀ i k, i < h → k < w → ev N p i k = ev N q i k) : p = q := by
  refine mat_ext (h := h) (w := w) hp.len (fun i r hr => ?_) hq.len (fun i r hr => ?_) fun i k hi hk => ?_
  · rw [← hp.wid]; exact hp.right.row _ (List.mem_of_getElem? hr)
  · rw [← hq.wid]; exact hq.right.row _ (List.mem_of_getElem? hr)
  · exact (lp i k (by rw [hp.len]; exact hi) (by rw [hp.wid]; exact hk)).ext (lq i k (by rw [hq.len]; exact hi) (by rw [hq.wid]; exact hk)) (hp.el i k hi hk).le (hq.el i k hi hk).le (he i k hi hk)
/-- A matrix that is computed element by element. -/
theorem grid_lv {F : Nat → Nat → (P4 × Int) × Int} {h w N : Nat} {A : Int} {e : Int} (h1 : 0 < h) (h2 : h ≤ 64) (w1 : 0 < w) (w2 : w ≤ 64) (he : e = 0) (hF : ∀ i k, i < h → k < w → (F i k).2 = 0 ∧ IsL (F i k).1 ∧ LV N A (F i k).1) :
    ∃ p, resM e F h w = (p, 0) ∧ MV N A p h w ∧ ML p ∧ ∀ i k, i < h → k < w → entry p i k = (F i k).1 := by
  obtain ⟨r1, r2⟩ := grid_right F h1 h2 w1 w2
  have hl := (gridM_shape F h w).1
  refine ⟨gridM F h w, resM_ok he (errs_zero fun i k hi hk => (hF i k hi hk).1), ⟨r1, hl, r2, fun i k hi hk => ?_⟩, fun i k hi hk => ?_, fun i k hi hk => gridM_entry F hi hk⟩
  · rw [gridM_entry F hi hk]; exact (hF i k hi hk).2.2
  · rw [hl] at hi
    rw [r2] at hk
    rw [gridM_entry F hi hk]
    exact (hF i k hi hk).2.1
theorem MulM_lv {m n : Mx} {N M h w v : Nat} {A B : Int} (hm : MV N A m h w) (hn : MV M B n w v) (h60 : N + M ≤ 60) (hA : 0 ≤ A * B) (hb : (w : Int) * (4 * (A * B)) ≤ 1073741824) :
    ∃ p, MulMF m n = (p, 0) ∧ MV (N + M) (w * (4 * (A * B))) p h v ∧ ML p ∧ ∀ i k, i < h → k < v → ev (N + M) p i k = su (fun t => pz (ev N m i t) (ev M n t k)) w := by
  have rm := hm.right
  have rn := hn.right
  have e1 := hm.len
  have e2 := hm.wid
  have e3 := hn.len
  have e4 := hn.wid
  have key : ∀ i k, i < h → k < v → (mulAt m n i k).2 = 0 ∧ IsL (mulAt m n i k).1 ∧ LV (N + M) (w * (4 * (A * B))) (mulAt m n i k).1 ∧ lv (N + M) (mulAt m n i k).1 = su (fun t => pz (ev N m i t) (ev M n t k)) w := by
    intro i k hi hk
    have hd : mulAt m n i k = dotR (fun t => entry m i t) (fun t => entry n t k) w := by
      unfold mulAt
      rw [e3]
      exact dot_eq _ fun _ _ => ⟨rfl, rfl⟩
    rw [hd]
    exact dot_lv h60 hA w (fun t ht => hm.el i t hi ht) (fun t ht => hn.el t k ht hk) hb
  have hE : mulErr m n = 0 := by
    unfold mulErr bothErr
    rw [hm.errs hn, if_neg (by simp), if_pos (by omega)]
  obtain ⟨p, p1, p2, p3, p4⟩ := grid_lv (F := mulAt m n) (N := N + M) (A := w * (4 * (A * B))) (by rw [← e1]; exact rm.pos) (by rw [← e1]; exact rm.le) (by rw [← e4]; exact rn.wpos) (by rw [← e4]; exact rn.wle) hE fun i k hi hk => ⟨(key i k hi hk).1, (key i k hi hk).2.1, (key i k hi hk).2.2.1⟩
  refine ⟨p, by unfold MulMF; rw [e1, e4]; exact p1, p2, p3, fun i k hi hk => ?_⟩
  unfold ev
  rw [p4 i k hi hk]
  exact (key i k hi hk).2.2.2
theorem AddM_lv {m n : Mx} {N h w : Nat} {A B : Int} (hm : MV N A m h w) (hn : MV N B n h w) (h60 : N ≤ 60) (hb : A + B ≤ 1073741824) :
    ∃ p, AddMF m n = (p, 0) ∧ MV N (A + B) p h w ∧ ML p ∧ ∀ i k, i < h → k < w → ev N p i k = pl (ev N m i k) (ev N n i k) := by
  have rm := hm.right
  have e1 := hm.len
  have e2 := hm.wid
  have e3 := hn.len
  have e4 := hn.wid
  have key : ∀ i k, i < h → k < w → (addAt m n i k).2 = 0 ∧ IsL (addAt m n i k).1 ∧ LV N (A + B) (addAt m n i k).1 ∧ lv N (addAt m n i k).1 = pl (ev N m i k) (ev N n i k) := by
    intro i k hi hk
    unfold addAt
    rw [Add_eq]
    exact Add_lv (hm.el i k hi hk) (hn.el i k hi hk) h60 hb
  have hE : addErr m n = 0 := by
    unfold addErr bothErr
    rw [hm.errs hn, if_neg (by simp), show alikeF m n = true by unfold alikeF; rw [e1, e2, e3, e4]; simp]
    rfl
  obtain ⟨p, p1, p2, p3, p4⟩ := grid_lv (F := addAt m n) (N := N) (A := A + B) (by rw [← e1]; exact rm.pos) (by rw [← e1]; exact rm.le) (by rw [← e2]; exact rm.wpos) (by rw [← e2]; exact rm.wle) hE fun i k hi hk => ⟨(key i k hi hk).1, (key i k hi hk).2.1, (key i k hi hk).2.2.1⟩
  refine ⟨p, by unfold AddMF; rw [e1, e2]; exact p1, p2, p3, fun i k hi hk => ?_⟩
  unfold ev
  rw [p4 i k hi hk]
  exact (key i k hi hk).2.2.2
theorem DaggerM_lv {m : Mx} {N h w : Nat} {A : Int} (hm : MV N A m h w) :
    ∃ p, DaggerMF m = (p, 0) ∧ MV N A p w h ∧ ML p ∧ ∀ i k, i < w → k < h → ev N p i k = cz (ev N m k i) := by
  have rm := hm.right
  have e1 := hm.len
  have e2 := hm.wid
  have key : ∀ i k, i < w → k < h → (daggerAt m i k).2 = 0 ∧ IsL (daggerAt m i k).1 ∧ LV N A (daggerAt m i k).1 ∧ lv N (daggerAt m i k).1 = cz (ev N m k i) := by
    intro i k hi hk
    unfold daggerAt
    rw [Conj_eq]
    exact Conj_lv (hm.el k i hk hi)
  obtain ⟨p, p1, p2, p3, p4⟩ := grid_lv (F := daggerAt m) (N := N) (A := A) (by rw [← e2]; exact rm.wpos) (by rw [← e2]; exact rm.wle) (by rw [← e1]; exact rm.pos) (by rw [← e1]; exact rm.le) hm.check fun i k hi hk => ⟨(key i k hi hk).1, (key i k hi hk).2.1, (key i k hi hk).2.2.1⟩
  refine ⟨p, by unfold DaggerMF; rw [e1, e2]; exact p1, p2, p3, fun i k hi hk => ?_⟩
  unfold ev
  rw [p4 i k hi hk]
  exact (key i k hi hk).2.2.2
theorem KronM_lv {m n : Mx} {N M h w h' w' : Nat} {A B : Int} (hm : MV N A m h w) (hn : MV M B n h' w') (h60 : N + M ≤ 60) (hb : 4 * (A * B) ≤ 1073741824) (hh : h * h' ≤ 64) (hw : w * w' ≤ 64) :
    ∃ p, KronMF m n = (p, 0) ∧ MV (N + M) (4 * (A * B)) p (h * h') (w * w') ∧ ML p ∧ ∀ i k, i < h * h' → k < w * w' → ev (N + M) p i k = pz (ev N m (i / h') (k / w')) (ev M n (i % h') (k % w')) := by
  have rm := hm.right
  have rn := hn.right
  have e1 := hm.len
  have e2 := hm.wid
  have e3 := hn.len
  have e4 := hn.wid
  have p1 : 0 < h := by rw [← e1]; exact rm.pos
  have p2 : 0 < w := by rw [← e2]; exact rm.wpos
  have p3 : 0 < h' := by rw [← e3]; exact rn.pos
  have p4 : 0 < w' := by rw [← e4]; exact rn.wpos
  have key : ∀ i k, i < h * h' → k < w * w' → (kronAt m n i k).2 = 0 ∧ IsL (kronAt m n i k).1 ∧ LV (N + M) (4 * (A * B)) (kronAt m n i k).1 ∧ lv (N + M) (kronAt m n i k).1 = pz (ev N m (i / h') (k / w')) (ev M n (i % h') (k % w')) := by
    intro i k hi hk
    unfold kronAt
    rw [Mul_eq, e3, e4]
    exact Mul_lv (hm.el _ _ (Nat.div_lt_of_lt_mul (by rw [Nat.mul_comm]; exact hi)) (Nat.div_lt_of_lt_mul (by rw [Nat.mul_comm]; exact hk))) (hn.el _ _ (Nat.mod_lt _ p3) (Nat.mod_lt _ p4)) h60 hb
  have hE : kronErr m n = 0 := by
    unfold kronErr bothErr
    rw [hm.errs hn, if_neg (by simp), e1, e2, e3, e4, if_pos ⟨hh, hw⟩]
  obtain ⟨p, q1, q2, q3, q4⟩ := grid_lv (F := kronAt m n) (N := N + M) (A := 4 * (A * B)) (Nat.mul_pos p1 p3) hh (Nat.mul_pos p2 p4) hw hE fun i k hi hk => ⟨(key i k hi hk).1, (key i k hi hk).2.1, (key i k hi hk).2.2.1⟩
  refine ⟨p, by unfold KronMF; rw [e1, e2, e3, e4]; exact q1, q2, q3, fun i k hi hk => ?_⟩
  unfold ev
  rw [q4 i k hi hk]
  exact (key i k hi hk).2.2.2
end Go.Proofs.YtmhnalikebkhjaaGreat


namespace Go.Proofs.YtmhnalikebkhjaaGreat
open Go.Proofs.YtmhnalikebkhjaaGreat.X Go.Proofs.YtmhnalikebkhjaaGreat.X.PH
set_option maxRecDepth 100000

/-- A store of one's own, that was drawn from so many times at most. -/
def StO (H O : PH) (b N : Nat) : Prop := ∃ v l n s, BytesH H v l ∧ l.length ≤ 300 ∧ n ≤ N ∧ (0 ≤ s ∧ s < 4294967296) ∧ O b = some (stC v n s)
theorem StO.up {H H' O : PH} {b N : Nat} (h : StO H O b N) (hs : Sub H H') : StO H' O b N := by
  obtain ⟨v, l, n, s, h1, h2⟩ := h
  exact ⟨v, l, n, s, SlH.up h1 hs, h2⟩
theorem StO.keep {H O O' : PH} {b N : Nat} (h : StO H O b N) (hk : ∀ c, O b = some (.cells c 52 (0, 0)) → O' b = some (.cells c 52 (0, 0))) : StO H O' b N := by
  obtain ⟨v, l, n, s, h1, h2, h3, h4, h5⟩ := h
  exact ⟨v, l, n, s, h1, h2, h3, h4, hk _ h5⟩
theorem StO.mono {H O : PH} {b N N' : Nat} (h : StO H O b N) (hN : N ≤ N') : StO H O b N' := by
  obtain ⟨v, l, n, s, h1, h2, h3, h4, h5⟩ := h
  exact ⟨v, l, n, s, h1, h2, by omega, h4, h5⟩
/-- What a draw leaves. -/
def StP (H' O O' : PH) (b N : Nat) : Prop := (∃ o, O' = ins O b o) ∧ StO H' O' b N
theorem StP.other {H' O O' : PH} {b N : Nat} (h : StP H' O O' b N) {n : Nat} (hn : n ≠ b) : O' n = O n := by
  obtain ⟨⟨o, rfl⟩, _⟩ := h
  exact ins_ne _ _ hn
theorem StP.refl {H O : PH} {b N : Nat} (h : StO H O b N) : StP H O O b N := by
  obtain ⟨v, l, n, s, h1, h2, h3, h4, h5⟩ := id h
  refine ⟨⟨_, (funext fun k => ?_ : O = ins O b (stC v n s))⟩, h⟩
  by_cases e : k = b
  · subst e; rw [ins_same, h5]
  · rw [ins_ne _ _ e]
theorem StP.trans {H1 H2 O O1 O2 : PH} {b N M : Nat} (h : StP H1 O O1 b N) (k : StP H2 O1 O2 b M) : StP H2 O O2 b M := by
  obtain ⟨⟨o, rfl⟩, _⟩ := h
  obtain ⟨⟨o', rfl⟩, k2⟩ := k
  exact ⟨⟨o', ins_ins _ _ _ _⟩, k2⟩
theorem StP.up {H' H'' O O' : PH} {b N : Nat} (h : StP H' O O' b N) (hs : Sub H' H'') : StP H'' O O' b N := ⟨h.1, h.2.up hs⟩
theorem c130' (N b : Nat) (hN : N < 4611686018427387904) (H O : PH) (h : StO H O b N) : Cl Tryz.prog 76 [.pointer (some ⟨b, 0, none⟩)] H O fun r H' O' => ∃ x, r = .int .u32 x ∧ (0 ≤ x ∧ x < 4294967296) ∧ StP H' O O' b (N + 1) := by
  obtain ⟨v, l, n, s, h1, h2, h3, h4, h5⟩ := h
  refine (c130 v l n s h2 (by omega) h4 H O b h1 h5).mono fun r H' O' hs hr => ?_
  obtain ⟨x, n', s', rfl, hx, hn', hs', rfl⟩ := hr
  exact ⟨x, rfl, hx, ⟨_, rfl⟩, v, l, n', s', SlH.up h1 hs, h2, by omega, hs', ins_same _ _ _⟩
theorem c56 (n : Int) (N b : Nat) (hN : N < 4611686018427387904) (H O : PH) (h : StO H O b N) : Cl Tryz.prog 24 [.pointer (some ⟨b, 0, none⟩), .int .i64 n] H O fun r H' O' => ∃ k : Int, r = .int .i64 k ∧ (0 < n → 0 ≤ k ∧ k < n) ∧ (n ≤ 0 → k = 0) ∧ StP H' O O' b (N + 1) := by
  refine Cl_of (pol := polL) Γok Tryz.func24 (by kernel_rfl) rfl ?_
  conv => whnf
  refine if_intro (fun hc => ?_) (fun hc => ?_)
  · conv => whnf
    have hc := of_decide_eq_true hc
    exact ⟨0, rfl, fun h => by omega, fun _ => rfl, .refl (h.mono (by omega))⟩
  · have hc := of_decide_eq_false hc
    conv => whnf
    refine (c130' N b hN H O h).mono fun r H1 O1 s1 hr => ?_
    obtain ⟨x, rfl, hx, hp⟩ := hr
    conv => whnf
    refine dec_intro (by omega) ?_
    conv => whnf
    have e : IntKind.i64.wrap (x.fdiv (2 ^ min (4 : Int).toNat IntKind.u32.bits)) = x / 16 := by
      rw [show x.fdiv (2 ^ min (4 : Int).toNat IntKind.u32.bits) = x / 16 from Int.fdiv_eq_ediv_of_nonneg _ (by decide)]
      exact wrap_id (by omega) (by omega)
    refine ⟨_, rfl, fun _ => ?_, fun h => by omega, hp⟩
    rw [e, Int.tmod_eq_emod_of_nonneg (by omega)]
    exact ⟨Int.emod_nonneg _ (by omega), Int.emod_lt_of_pos _ (by omega)⟩
theorem c50 (lo hi : Int) (h1 : -1000000 ≤ lo) (h2 : lo ≤ hi) (h3 : hi ≤ 1000000) (N b : Nat) (hN : N < 4611686018427387904) (H O : PH) (h : StO H O b N) : Cl Tryz.prog 6 [.pointer (some ⟨b, 0, none⟩), .int .i64 lo, .int .i64 hi] H O fun r H' O' => ∃ k : Int, r = .int .i64 k ∧ (lo ≤ k ∧ k ≤ hi) ∧ StP H' O O' b (N + 1) := by
  refine Cl_of (pol := polL) Γok Tryz.func6 (by kernel_rfl) rfl ?_
  conv => whnf
  rw [wrap_id (n := hi - lo) (by omega) (by omega), wrap_id (n := hi - lo + 1) (by omega) (by omega)]
  refine (c56 (hi - lo + 1) N b hN H O h).mono fun r H1 O1 s1 hr => ?_
  obtain ⟨k, rfl, hk, _, hp⟩ := hr
  have hk := hk (by omega)
  conv => whnf
  refine ⟨_, rfl, ?_, hp⟩
  rw [wrap_id (n := lo + k) (by omega) (by omega)]
  omega
theorem c172 (z : Int) (hz : 0 ≤ z ∧ z ≤ 1000000) (N b bs bz : Nat) (t t' : TypeId) (hN : N < 4611686018427387904) (H O : PH) (hbs : H bs = some (.cells ⟨[.pointer (some ⟨b, 0, none⟩)]⟩ t (0, 0))) (hbz : H bz = some (.cells ⟨[.int .i64 z]⟩ t' (0, 0))) (h : StO H O b N) :
    Cl Tryz.prog 77 [.pointer (some ⟨bs, 0, none⟩), .pointer (some ⟨bz, 0, none⟩)] H O fun r H' O' => ∃ k : Int, r = .int .i64 k ∧ (-z ≤ k ∧ k ≤ z) ∧ StP H' O O' b (N + 1) := by
  refine Cl_of (pol := polL) Γok Tryz.func77 (by kernel_rfl) rfl ?_
  conv => whnf
  refine ⟨_, Rd.whole hbs, ?_⟩
  conv => whnf
  refine ⟨_, Rd.whole hbz, ?_⟩
  conv => whnf
  refine ⟨_, Rd.whole hbz, ?_⟩
  conv => whnf
  rw [wrap_id (n := 0 - z) (by omega) (by omega)]
  refine (c50 (0 - z) z (by omega) (by omega) (by omega) N b hN H O h).mono fun r H1 O1 s1 hr => ?_
  obtain ⟨k, rfl, hk, hp⟩ := hr
  conv => whnf
  exact ⟨k, rfl, by omega, hp⟩
/-- A number of a size. -/
structure NumB (z r : Int) (x : P4 × Int) : Prop where
  co : x.1.within z
  k0 : 0 ≤ x.2
  k1 : x.2 ≤ r
theorem c125 (z r : Int) (hz : 0 ≤ z ∧ z ≤ 1000000) (hr : 0 ≤ r ∧ r ≤ 1000000) (N b : Nat) (hN : N < 4611686018427380000) (H O : PH) (h : StO H O b N) :
    Cl Tryz.prog 25 [.pointer (some ⟨b, 0, none⟩), .int .i64 z, .int .i64 r] H O fun v H' O' => ∃ x, v = nv x ∧ NumB z r x ∧ StP H' O O' b (N + 5) := by
  refine Cl_of (pol := fun | 3 => .imm | 4 => .imm | _ => .loc) Γok Tryz.func25 (by kernel_rfl) rfl ?_
  conv => whnf
  intro bs hbs hO1
  conv => whnf
  intro bz hbz hO2
  conv => whnf
  intro b6
  conv => whnf
  have s1 := sub_ins H (.cells ⟨[.pointer (some ⟨b, 0, none⟩)]⟩ 23 (0, 0)) hbs
  have s2 := sub_ins _ (.cells ⟨[.int .i64 z]⟩ 3 (0, 0)) hbz
  have ks := s2 _ _ (ins_same H bs (.cells ⟨[.pointer (some ⟨b, 0, none⟩)]⟩ 23 (0, 0)))
  have kz := ins_same (ins H bs (.cells ⟨[.pointer (some ⟨b, 0, none⟩)]⟩ 23 (0, 0))) bz (.cells ⟨[.int .i64 z]⟩ 3 (0, 0))
  replace h := (h.up s1).up s2
  refine W_draw (pol := polL) Γok mixes [(0, .pendO), (2, .pend), (4, .pend), (6, .pend), (8, .pend), (9, .pend), (10, .pend), (1, .lock), (3, .lock), (5, .lock), (7, .lock), (11, .lock), (12, .pendO), (13, .lock)] 22 (by kernel_rfl) rfl ?_
  conv => whnf
  rw [wrap_id (n := r + 1) (by omega) (by omega)]
  refine (c172 z hz N b bs bz _ _ (by omega) _ _ ks kz h).mono fun v H1 O1 t1 hv => ?_
  obtain ⟨k1, rfl, i1, p1⟩ := hv
  conv => whnf
  refine (c172 z hz (N + 1) b bs bz _ _ (by omega) _ _ (t1 _ _ ks) (t1 _ _ kz) p1.2).mono fun v H2 O2 t2 hv => ?_
  obtain ⟨k2, rfl, i2, p2⟩ := hv
  conv => whnf
  refine (c172 z hz (N + 2) b bs bz _ _ (by omega) _ _ (t2 _ _ (t1 _ _ ks)) (t2 _ _ (t1 _ _ kz)) p2.2).mono fun v H3 O3 t3 hv => ?_
  obtain ⟨k3, rfl, i3, p3⟩ := hv
  conv => whnf
  refine (c172 z hz (N + 3) b bs bz _ _ (by omega) _ _ (t3 _ _ (t2 _ _ (t1 _ _ ks))) (t3 _ _ (t2 _ _ (t1 _ _ kz))) p3.2).mono fun v H4 O4 t4 hv => ?_
  obtain ⟨k4, rfl, i4, p4⟩ := hv
  conv => whnf
  refine (c56 (r + 1) (N + 4) b (by omega) _ _ p4.2).mono fun v H5 O5 t5 hv => ?_
  obtain ⟨k5, rfl, i5, _, p5⟩ := hv
  have i5 := i5 (by omega)
  conv => whnf
  exact ⟨(⟨k1, k2, k3, k4⟩, k5), rfl, ⟨⟨i1, i2, i3, i4⟩, i5.1, by dsimp only; omega⟩, p1.trans (p2.trans (p3.trans (p4.trans p5)))⟩
/-- A row of one's own is made one that nobody changes any more; what is of another kind stays one's own. -/
theorem NumO.pub2 {H M : PH} {v : Value} {l : List (P4 × Int)} (hd : Dis H M) (h : NumO M v l) : ∃ H' M', Repart H M H' M' ∧ NumH H' v l ∧ ∀ n c t, M n = some (.cells c t (0, 0)) → t ≠ 36 → M' n = some (.cells c t (0, 0)) := by
  obtain ⟨h1, h⟩ := h
  rcases h with ⟨rfl, h⟩ | ⟨b, cap, spare, rfl, hO, hcap, hsp⟩
  · have : l = [] := by simpa using h
    subst this
    exact ⟨H, M, .refl hd, ⟨none, 0, rfl, .inl ⟨rfl, rfl⟩⟩, fun _ _ _ h _ => h⟩
  · refine ⟨_, _, .one hd hO, ⟨some ⟨b, 0, none⟩, cap, by simp, .inr ⟨b, 0, _, _, _, rfl, ins_same _ _ _, ?_⟩⟩, fun n c t hn ht => (del_ne _ fun e => ?_).trans hn⟩
    · simp [cellsN]
    · subst e
      rw [hO] at hn
      injection hn with hn
      injection hn with _ hn
      exact ht hn.symm
theorem OwnS.rows2 {H M : PH} {v : Value} {us : List Value} {m : List (List (P4 × Int))} (hd : Dis H M) (h : OwnS M 1 43 v (us.map fun u => [u])) (hr : RowsH H us m) : ∃ H' M', Repart H M H' M' ∧ MatH H' v m ∧ ∀ n c t, M n = some (.cells c t (0, 0)) → t ≠ 43 → M' n = some (.cells c t (0, 0)) := by
  obtain ⟨h1, h⟩ := h
  have hl := hr.1
  rcases h with ⟨rfl, h⟩ | ⟨b, cap, spare, rfl, hO, hcap, hsp⟩
  · have : us = [] := by simpa using h
    subst this
    have : m = [] := by simpa using hl.symm
    subst this
    exact ⟨H, M, .refl hd, ⟨[], rfl, ⟨none, 0, rfl, .inl ⟨rfl, rfl⟩⟩, fun i r u hr => by simp at hr⟩, fun _ _ _ h _ => h⟩
  · have hs := (Repart.one hd hO).sub
    refine ⟨_, _, .one hd hO, ⟨us, hl, ⟨some ⟨b, 0, none⟩, cap, by simp [hl], .inr ⟨b, 0, _, _, _, rfl, ins_same _ _ _, ?_⟩⟩, fun i r u hr' hu => (hr.2 i r u hr' hu).up hs⟩, fun n c t hn ht => (del_ne _ fun e => ?_).trans hn⟩
    · have : ∀ us : List Value, (us.map fun u => [u]).flatten = us := by
        intro us
        induction us with
        | nil => rfl
        | cons u us ih => simp only [List.map_cons, List.flatten_cons, ih]; rfl
      show (List.drop 0 ((us.map fun u => [u]).flatten ++ spare)).take us.length = us
      rw [this us]
      simp
    · subst e
      rw [hO] at hn
      injection hn with hn
      injection hn with _ hn
      exact ht hn.symm
end Go.Proofs.YtmhnalikebkhjaaGreat


namespace Go.Proofs.YtmhnalikebkhjaaGreat
open Go.Proofs.YtmhnalikebkhjaaGreat.X Go.Proofs.YtmhnalikebkhjaaGreat.X.PH
set_option maxRecDepth 100000

theorem StO.ne {H O : PH} {b N : Nat} (h : StO H O b N) {n : Nat} {c : Array Value} {t : TypeId} (hn : O n = some (.cells c t (0, 0))) (ht : t ≠ 52) : n ≠ b := by
  rintro rfl
  obtain ⟨_, _, _, _, _, _, _, _, h5⟩ := h
  rw [hn] at h5
  injection h5 with h5
  injection h5 with _ h5
  exact ht h5
theorem StP.owns {H H' O O' : PH} {b N M sz : Nat} {t : TypeId} {v : Value} {xs : List (List Value)} (h : StO H O b N) (k : StP H' O O' b M) (ht : t ≠ 52) (ho : OwnS O sz t v xs) : OwnS O' sz t v xs :=
  OwnS.keep ho fun _ _ hn => (k.other (h.ne hn ht)).trans hn
theorem OwnS.not_at {O : PH} {sz : Nat} {t t' : TypeId} {v : Value} {xs : List (List Value)} (ho : OwnS O sz t v xs) {n : Nat} {c : Array Value} (hn : O n = some (.cells c t' (0, 0))) (ht : t ≠ t') : ∀ m cap, v ≠ .slice (some ⟨n, 0, none⟩) m cap := by
  intro m cap e
  rcases ho.2 with ⟨e', _⟩ | ⟨b', cap', spare, e', hO', _⟩
  · rw [e] at e'; cases e'
  · rw [e] at e'
    cases e'
    rw [hn] at hO'
    injection hO' with hO'
    injection hO' with _ hO'
    exact ht hO'.symm
def polM : Tmp → Pol := fun | 18 => .imm | 23 => .imm | _ => .loc
/-- Rows of small numbers. -/
def Small (z r : Int) (m : Mx) (h w : Nat) : Prop := m.length = h ∧ ∀ x ∈ m, x.length = w ∧ ∀ y ∈ x, NumB z r y
set_option maxHeartbeats 1000000 in
theorem c51 (h w : Nat) (hh : h ≤ 64) (hw : w ≤ 64) (N b : Nat) (hN : N < 4611686018427300000) (H O : PH) (hs : StO H O b N) :
    Cl Tryz.prog 7 [.pointer (some ⟨b, 0, none⟩), .int .i64 h, .int .i64 w] H O fun r H' O' => ∃ us m, OwnS O' 1 43 r (us.map fun u => [u]) ∧ RowsH H' us m ∧ Small 5 3 m h w ∧ StO H' O' b (N + 320 * h) := by
  refine Cl_of (pol := polM) Γok Tryz.func7 (by kernel_rfl) rfl ?_
  conv => whnf
  refine W_loop (pol := polM) Γok (Nat × PH × Value × PH) (fun i => i.1 ≤ h ∧ Sub H i.2.1 ∧ ∃ us m, OwnS i.2.2.2 1 43 i.2.2.1 (us.map fun u => [u]) ∧ RowsH i.2.1 us m ∧ Small 5 3 m i.1 w ∧ StO i.2.1 i.2.2.2 b (N + 320 * i.1)) (fun i => h - i.1) (fun i => [(10, .v (.int .i64 i.1)), (7, .v i.2.2.1)]) (fun _ => []) (fun i => i.2.1) (fun i => i.2.2.2) ⟨(0, H, .slice none 0 0, O), ⟨by simp, Sub.refl _, [], [], ⟨by simp, .inl ⟨rfl, by simp⟩⟩, ⟨rfl, by simp⟩, ⟨rfl, by simp⟩, by simpa using hs⟩, rfl, rfl, ?_⟩ ?_
  · conv => whnf
    repeat (refine ⟨rfl, ?_⟩; conv => whnf)
    exact trivial
  · rintro ⟨i, H', out, O'⟩ ⟨h1, h2, us, m, h3, h4, h5, h6⟩
    dsimp only at h1 h2 h3 h4 h5 h6
    conv => whnf
    refine if_intro (fun hc => ?_) (fun hc => ?_)
    · have hi : i < h := by simpa using hc
      conv => whnf
      refine W_repart ?_
      refine W_loopX (pol := polM) Γok (Nat × PH × Value × PH) (fun k => k.1 ≤ w ∧ Sub H' k.2.1 ∧ OwnS k.2.2.2 1 43 out (us.map fun u => [u]) ∧ ∃ l, NumO k.2.2.2 k.2.2.1 l ∧ l.length = k.1 ∧ (∀ y ∈ l, NumB 5 3 y) ∧ StO k.2.1 k.2.2.2 b (N + 320 * i + 5 * k.1)) (fun k => w - k.1)
        (fun e k => e = .exit 2 ∧ Sub H' k.2.1 ∧ OwnS k.2.2.2 1 43 out (us.map fun u => [u]) ∧ ∃ l, NumO k.2.2.2 k.2.2.1 l ∧ l.length = w ∧ (∀ y ∈ l, NumB 5 3 y) ∧ StO k.2.1 k.2.2.2 b (N + 320 * (i + 1))) (fun k => [(13, .v (.int .i64 k.1)), (8, .v k.2.2.1)]) (fun _ => []) (fun k => k.2.1) (fun k => k.2.2.2) ⟨(0, H', .slice none 0 0, O'), ⟨by simp, Sub.refl _, h3, [], ⟨by simp, .inl ⟨rfl, by simp⟩⟩, rfl, by simp, by simpa using h6⟩, rfl, rfl, ?_⟩ ?_ ?_
      · conv => whnf
        repeat (refine ⟨rfl, ?_⟩; conv => whnf)
        exact trivial
      · rintro ⟨k, H2, cur, O2⟩ ⟨k1, k2, k3, l, k4, k5, k6, k7⟩
        dsimp only at k1 k2 k3 k4 k5 k6 k7
        conv => whnf
        refine if_intro (fun hc => ?_) (fun hc => ?_)
        · have hk : k < w := by simpa using hc
          conv => whnf
          refine (c125 5 3 (by decide) (by decide) (N + 320 * i + 5 * k) b (by omega) _ _ k7).mono fun v H3 O3 s3 hv => ?_
          obtain ⟨x, rfl, hx, p3⟩ := hv
          have o3 := StP.owns k7 p3 (by decide) k3
          have c3 := StP.owns k7 p3 (by decide) k4
          conv => whnf
          intro b3 hb3 hO3
          conv => whnf
          refine append_one' (xs := l.map cellsOf) (y := cellsOf x) c3 rfl rfl (cellsOf_one _) ⟨_, _, _, rfl, rfl, Rd.whole (ins_same _ _ _)⟩ ?_ fun v O4 hO4 hkeep => ?_
          · simp
            omega
          conv => whnf
          have s4 := sub_ins H3 (.cells ⟨cellsOf x⟩ 36 (0, 0)) hb3
          refine ⟨(k + 1, ins H3 b3 (.cells ⟨cellsOf x⟩ 36 (0, 0)), v, O4), ⟨hk, k2.trans (s3.trans s4), ?_, l ++ [x], ?_, by dsimp only; rw [List.length_append, k5]; rfl, ?_, ?_⟩, by dsimp only; omega, ?_⟩
          · exact OwnS.keep o3 fun n cs hn => hkeep n _ hn fun cap => OwnS.not_at c3 hn (by decide) _ _
          · dsimp only
            rw [NumO, List.map_append]
            exact hO4
          · intro y hy
            rcases List.mem_append.1 hy with hy | hy
            · exact k6 y hy
            · simp at hy; subst hy; exact hx
          · have := (p3.2.up s4).keep (O' := O4) fun c hn => hkeep b _ hn fun cap => OwnS.not_at c3 hn (by decide) _ _
            exact this.mono (by dsimp only; omega)
          · conv => whnf
            refine ⟨rfl, rfl, ?_⟩
            conv => whnf
            repeat (refine ⟨rfl, ?_⟩; conv => whnf)
            refine ⟨by show En.v (.int .i64 (IntKind.i64.wrap (k + 1))) = _; rw [wrap_id (by omega) (by omega)]; rfl, ?_⟩
            conv => whnf
            repeat (refine ⟨rfl, ?_⟩; conv => whnf)
            exact trivial
        · have hk : w = k := by
            have : ¬ k < w := by simpa using hc
            omega
          conv => whnf
          refine .inr ⟨(k, H2, cur, O2), ⟨rfl, k2, k3, l, k4, by rw [k5]; exact hk.symm, k6, k7.mono (by omega)⟩, ?_⟩
          conv => whnf
          refine ⟨rfl, rfl, ?_⟩
          conv => whnf
          repeat (refine ⟨rfl, ?_⟩; conv => whnf)
          exact trivial
      · rintro e ⟨k, H2, cur, O2⟩ ⟨rfl, k2, k3, l, k4, k5, k6, k7⟩
        dsimp only at k2 k3 k4 k5 k6 k7
        refine .inr fun hd => ?_
        obtain ⟨H3, O3, rp, hn3, hk3⟩ := NumO.pub2 hd k4
        have ho3 : OwnS O3 1 43 out (us.map fun u => [u]) := OwnS.keep k3 fun n cs hn => hk3 n _ _ hn (by decide)
        have hs3 : StO H3 O3 b (N + 320 * (i + 1)) := (k7.up rp.sub).keep fun c hn => hk3 b _ _ hn (by decide)
        obtain ⟨rb, rc, rfl⟩ : ∃ rb rc, cur = .slice rb l.length rc := by
          obtain ⟨b, c, h, _⟩ := hn3
          exact ⟨b, c, h⟩
        refine ⟨H3, O3, rp, ?_⟩
        conv => whnf
        intro b2 hb2 hO2
        conv => whnf
        refine append_one' (xs := us.map fun u => [u]) (y := [.slice rb l.length rc]) ho3 rfl rfl (slice_one hn3) ⟨_, _, _, rfl, rfl, Rd.whole (ins_same _ _ _)⟩ ?_ fun v O4 hO4 hkeep => ?_
        · have := h4.1
          have := h5.1
          simp
          omega
        conv => whnf
        have s5 := sub_ins H3 (.cells ⟨[.slice rb l.length rc]⟩ 43 (0, 0)) hb2
        refine ⟨(i + 1, ins H3 b2 (.cells ⟨[.slice rb l.length rc]⟩ 43 (0, 0)), v, O4), ⟨hi, h2.trans (k2.trans (rp.sub.trans s5)), us ++ [.slice rb l.length rc], m ++ [l], ?_, ?_, ⟨?_, ?_⟩, ?_⟩, by dsimp only; omega, ?_⟩
        · show OwnS O4 1 43 v _
          rw [List.map_append]
          exact hO4
        · exact (h4.up (k2.trans (rp.sub.trans s5))).snoc (hn3.up s5)
        · dsimp only
          rw [List.length_append, h5.1]
          rfl
        · intro y hy
          rcases List.mem_append.1 hy with hy | hy
          · exact h5.2 y hy
          · simp at hy; subst hy; exact ⟨k5, k6⟩
        · exact (hs3.up s5).keep fun c hn => hkeep b _ hn fun cap => OwnS.not_at ho3 hn (by decide) _ _
        · conv => whnf
          refine ⟨rfl, rfl, ?_⟩
          conv => whnf
          repeat (refine ⟨rfl, ?_⟩; conv => whnf)
          refine ⟨by show En.v (.int .i64 (IntKind.i64.wrap (i + 1))) = _; rw [wrap_id (by omega) (by omega)]; rfl, ?_⟩
          conv => whnf
          repeat (refine ⟨rfl, ?_⟩; conv => whnf)
          exact trivial
    · conv => whnf
      have hi : h = i := by
        have : ¬ i < h := by simpa using hc
        omega
      rw [← hi] at h5 h6
      exact ⟨us, m, h3, h4, h5, h6⟩
theorem c51' (h w : Nat) (hh : h ≤ 64) (hw : w ≤ 64) (N b : Nat) (hN : N < 4611686018427300000) (H O : PH) (hs : StO H O b N) :
    Cl Tryz.prog 7 [.pointer (some ⟨b, 0, none⟩), .int .i64 h, .int .i64 w] H O fun r H' O' => ∃ m, MatH H' r m ∧ Small 5 3 m h w ∧ StO H' O' b (N + 320 * h) :=
  (c51 h w hh hw N b hN H O hs).repart fun _ _ _ _ hd ⟨us, m, h1, h2, h3, h4⟩ => by
    obtain ⟨H', M', r1, r2, r3⟩ := OwnS.rows2 hd h1 h2
    exact ⟨H', M', r1, m, r2, h3, (h4.up r1.sub).keep fun c hn => r3 b _ _ hn (by decide)⟩

/-! ### a store of bytes -/
theorem flat_one : ∀ l : List Int, (l.map fun x => [Value.int .u8 x]).flatten = l.map fun x => .int .u8 x
  | [] => rfl
  | x :: l => by
    rw [List.map_cons, List.flatten_cons, flat_one l]
    rfl
theorem c124 (l : List Int) (hlen : l.length ≤ 100000) (H : PH) (v : Value) (hv : BytesH H v l) : Cl Tryz.prog 23 [v] H emp fun r H' _ => BytesH H' r l := by
  refine Cl.repart (Q := fun r H' M' => OwnS M' 1 5 r (l.map fun x => [.int .u8 x])) ?_ ?_
  · obtain ⟨base, cap, rfl, hv'⟩ := id hv
    refine Cl_of (pol := fun _ => .own) Γok Tryz.func23 (by kernel_rfl) rfl ?_
    conv => whnf
    refine if_intro (fun h => ?_) (fun h => ?_)
    · conv => whnf
      rcases hv' with ⟨h', _⟩ | ⟨_, _, _, _, _, h', _⟩
      · have : l = [] := by simpa using h'
        subst this
        exact ⟨by simp, .inl ⟨rfl, rfl⟩⟩
      · rw [h'] at h; cases h
    · conv => whnf
      intro b hb hO
      conv => whnf
      have hfl := flat_one l
      refine append_many (xs := []) (ys := l.map fun x => [.int .u8 x]) ⟨by simp, .inr ⟨b, 0, [], rfl, by rw [ins_same]; rfl, Nat.le_refl _, by simp⟩⟩ rfl (fun y hy => ?_) ?_ ⟨base, cap, by simp, fun hb => ?_, fun a ha hpos => ?_⟩ ?_ fun v O2 hO2 hfr => ?_
      · obtain ⟨x, _, rfl⟩ := List.mem_map.1 hy
        rfl
      · rw [hfl]
        intro v hv
        obtain ⟨x, _, rfl⟩ := List.mem_map.1 hv
        rfl
      · rcases hv' with ⟨h', _⟩ | ⟨_, _, _, _, _, h', _⟩
        · have : l = [] := by simpa using h'
          rw [this]; rfl
        · rw [hb] at h'; cases h'
      · rcases hv' with ⟨h', _⟩ | ⟨b1, off1, c, t, fr, h1, h2, h3⟩
        · simp at hpos; omega
        · rw [ha] at h1; cases h1
          refine ⟨rfl, by rw [hfl]; simp, c, t, fr, .inl h2, ?_⟩
          rw [hfl]
          simpa using h3
      · simp
        omega
      conv => whnf
      exact hO2
  · rintro v' H' M' hsub hd ⟨h1, h⟩
    have hfl := flat_one l
    rcases h with ⟨rfl, h⟩ | ⟨b, cap, spare, rfl, hO, hcap, hsp⟩
    · have : l = [] := by simpa using h
      subst this
      exact ⟨H', M', .refl hd, none, 0, rfl, .inl ⟨rfl, rfl⟩⟩
    · refine ⟨_, _, .one hd hO, some ⟨b, 0, none⟩, cap, by simp, .inr ⟨b, 0, _, _, _, rfl, ins_same _ _ _, ?_⟩⟩
      rw [hfl]
      simp
theorem add_zero' (a : Addr) : a.add (Int.toNat 0 * 1) = a := by
  show a.add 0 = a
  unfold Addr.add
  simp
theorem c49 (l : List Int) (base : Option Addr) (cap : Nat) (hcap : l.length ≤ cap) (hlen : l.length < 9223372036854775808) (H : PH) (hv : BytesH H (.slice base l.length cap) l) : Cl Tryz.prog 5 [.slice base l.length cap] H emp fun r H' O' => ∃ b, r = .pointer (some ⟨b, 0, none⟩) ∧ StO H' O' b 0 := by
  refine Cl_of (pol := fun _ => .own) Γok Tryz.func5 (by kernel_rfl) rfl ?_
  conv => whnf
  have hmin : (if (300 : Int) < (l.length : Int) then (300 : Int) else (l.length : Int)) = ((min l.length 300 : Nat) : Int) := by
    split <;> omega
  rw [hmin]
  have hm : min l.length 300 ≤ cap := by omega
  refine dec_intro (by omega) ?_
  conv => whnf
  have hb : (if cap = Int.toNat 0 then base else base.map fun x => x.add (Int.toNat 0 * 1)) = base := by
    have : base.map (fun x => x.add (Int.toNat 0 * 1)) = base := by
      cases base with
      | none => rfl
      | some a => exact congrArg some (add_zero' a)
    rw [this]
    simp
  have hpre : BytesH H (.slice base (min l.length 300) (cap - Int.toNat 0)) (l.take 300) := by
    obtain ⟨b', c', hv', h⟩ := hv
    cases hv'
    have hl : (l.take 300).length = min l.length 300 := by rw [List.length_take]; omega
    refine ⟨base, _, by rw [hl], ?_⟩
    rcases h with ⟨h, _⟩ | ⟨b, off, c, t, fr, h1, h2, h3⟩
    · have : l = [] := by simpa using h
      subst this
      exact .inl ⟨rfl, rfl⟩
    · refine .inr ⟨b, off, c, t, fr, h1, h2, ?_⟩
      have e := congrArg (List.take 300) h3
      rw [List.take_take] at e
      rw [List.map_take, List.length_take]
      exact e
  rw [hb]
  refine (c124 (l.take 300) (by rw [List.length_take]; omega) _ _ hpre).use fun r H1 s1 hr => ?_
  obtain ⟨_, hr⟩ := hr
  obtain ⟨rb, rn, rc, rfl⟩ : ∃ rb rn rc, r = .slice rb rn rc := by
    obtain ⟨x, y, h, _⟩ := hr
    exact ⟨x, _, y, h⟩
  conv => whnf
  intro b hb1 hb2
  conv => whnf
  exact ⟨b, rfl, _, l.take 300, 0, 2463534242, hr, by rw [List.length_take]; omega, Nat.le_refl _, by decide, ins_same _ _ _⟩
end Go.Proofs.YtmhnalikebkhjaaGreat


namespace Go.Proofs.YtmhnalikebkhjaaGreat
open Go.Proofs.YtmhnalikebkhjaaGreat.X Go.Proofs.YtmhnalikebkhjaaGreat.X.PH
set_option maxRecDepth 100000

theorem numB_LV {x : P4 × Int} (h : NumB 5 3 x) : LV 3 20 x := by
  obtain ⟨h1, h2, h3⟩ := h
  refine ⟨in_right h2 (by omega) (within_mono h1 (by decide)), by omega, ?_⟩
  have hk : x.2 = 0 ∨ x.2 = 1 ∨ x.2 = 2 ∨ x.2 = 3 := by omega
  unfold P4.within at h1
  unfold lv
  rcases hk with e | e | e | e <;> rw [e]
  · show (tw (tw (tw x.1))).within 20
    unfold tw P4.within
    dsimp only
    omega
  · show (tw (tw x.1)).within 20
    unfold tw P4.within
    dsimp only
    omega
  · show (tw x.1).within 20
    unfold tw P4.within
    dsimp only
    omega
  · show x.1.within 20
    unfold P4.within
    omega
theorem small_right {z r : Int} {m : Mx} {h w : Nat} (hs : Small z r m h w) (h1 : 0 < h) (h2 : h ≤ 64) (w1 : 0 < w) (w2 : w ≤ 64) : Right m ∧ wideM m = w := by
  have hw : wideM m = w := by
    rw [wideM_get (by rw [hs.1]; exact h1)]
    exact (hs.2 _ (List.getElem_mem _)).1
  exact ⟨⟨by rw [hs.1]; exact h1, by rw [hs.1]; exact h2, fun r hr => by rw [hw]; exact (hs.2 r hr).1, by omega, by omega⟩, hw⟩
theorem small_MV {m : Mx} {h w : Nat} (hs : Small 5 3 m h w) (h1 : 0 < h) (h2 : h ≤ 64) (w1 : 0 < w) (w2 : w ≤ 64) : MV 3 20 m h w := by
  obtain ⟨r1, r2⟩ := small_right hs h1 h2 w1 w2
  refine ⟨r1, hs.1, r2, fun i k hi hk => ?_⟩
  have hi' : i < m.length := by rw [hs.1]; exact hi
  have hr := hs.2 _ (List.getElem_mem hi')
  have hk' : k < m[i].length := by rw [hr.1]; exact hk
  rw [entry_get hi' hk']
  exact numB_LV (hr.2 _ (List.getElem_mem hk'))
theorem MV.mono {N : Nat} {A B : Int} {m : Mx} {h w : Nat} (v : MV N A m h w) (hAB : A ≤ B) : MV N B m h w := ⟨v.right, v.len, v.wid, fun i k hi hk => (v.el i k hi hk).mono hAB⟩

/-! ### least forms -/
def LeastMF (m : Mx) : Mx × Int := if checkMR m ≠ 0 then ([], checkMR m) else (m.map formsR, 0)
theorem c28' (m : Mx) (hlen : m.length < 1000000) (H : PH) (v : Value) (hv : MatH H v m) : Cl Tryz.prog 74 [v] H emp fun r H' _ => OutH H' r (LeastMF m) :=
  (c28 m hlen H v hv).repart fun r H' M' _ hd h => by
    unfold LeastMF
    rcases h with ⟨h1, rfl⟩ | ⟨h1, u, rfl, h2⟩
    · rw [if_pos h1]
      exact ⟨_, _, .refl hd, OutH.bad⟩
    · rw [if_neg (by simpa using h1)]
      exact ⟨_, _, .all hd, u, rfl, h2.share hd⟩
theorem forms_entry (m : Mx) {i k : Nat} (hi : i < m.length) (hk : k < m[i].length) : entry (m.map formsR) i k = formR (entry m i k).1 (entry m i k).2 := by
  rw [entry_get hi hk, entry_get (by simpa using hi) (by simpa [formsR] using hk)]
  simp [formsR]
theorem LeastM_lv {m : Mx} {N h w : Nat} {A : Int} (hm : MV N A m h w) : ∃ p, LeastMF m = (p, 0) ∧ MV N A p h w ∧ ML p ∧ ∀ i k, i < h → k < w → ev N p i k = ev N m i k := by
  have rm := hm.right
  have e1 := hm.len
  have e2 := hm.wid
  have hent : ∀ i k, i < h → k < w → entry (m.map formsR) i k = formR (entry m i k).1 (entry m i k).2 := by
    intro i k hi hk
    have hi' : i < m.length := by omega
    exact forms_entry m hi' (by rw [rm.row _ (List.getElem_mem hi')]; omega)
  have key : ∀ i k, i < h → k < w → IsL (entry (m.map formsR) i k) ∧ LV N A (entry (m.map formsR) i k) ∧ lv N (entry (m.map formsR) i k) = ev N m i k := by
    intro i k hi hk
    have hx := hm.el i k hi hk
    have rx := right_in hx.ok
    rw [hent i k hi hk]
    obtain ⟨f1, f2, f3⟩ := lv_form (N := N) (fine_of (within_mono rx.2.2 (by decide))) rx.1 hx.le
    have hl : lv N (formR (entry m i k).1 (entry m i k).2) = ev N m i k := f1
    have hL := form_L hx.ok
    exact ⟨hL, ⟨hL.ok, Int.le_trans f3 hx.le, by rw [hl]; exact hx.small⟩, hl⟩
  have hw : wideM (m.map formsR) = w := by
    rw [wideM_get (by simpa using rm.pos)]
    simp only [List.getElem_map, formsR, List.length_map]
    rw [rm.row _ (List.getElem_mem _)]
    exact e2
  have hr : Right (m.map formsR) := by
    refine ⟨by simpa using rm.pos, by simpa using rm.le, fun r hr => ?_, by rw [hw, ← e2]; exact rm.wpos, by rw [hw, ← e2]; exact rm.wle⟩
    obtain ⟨r', hr', rfl⟩ := List.mem_map.1 hr
    rw [hw, ← e2, ← rm.row _ hr']
    simp [formsR]
  refine ⟨m.map formsR, ?_, ⟨hr, by simpa using e1, hw, fun i k hi hk => (key i k hi hk).2.1⟩, fun i k hi hk => ?_, fun i k hi hk => (key i k hi hk).2.2⟩
  · unfold LeastMF
    rw [if_neg (by rw [← checkMF_checkMR, hm.check]; simp)]
  · rw [hw] at hk
    have hi : i < m.length := by simpa using hi
    exact (key i k (by omega) hk).1

/-! ### the laws of products -/
theorem order_mul {x y z : Mx} {a b c d : Nat} (hx : MV 3 20 x a b) (hy : MV 3 20 y b c) (hz : MV 3 20 z c d) (hb : b ≤ 4) (hc : c ≤ 4) :
    ∃ xy yz l, MulMF x y = (xy, 0) ∧ MulMF y z = (yz, 0) ∧ MulMF xy z = (l, 0) ∧ MulMF x yz = (l, 0) ∧ MV 6 6400 xy a c ∧ MV 6 6400 yz b d ∧ ML xy ∧ MV 9 2048000 l a d ∧ ∀ i k, i < a → k < c → ev 6 xy i k = su (fun t => pz (ev 3 x i t) (ev 3 y t k)) b := by
  obtain ⟨xy, p1, p2, p3, p4⟩ := MulM_lv hx hy (by decide) (by decide) (by omega)
  obtain ⟨yz, q1, q2, q3, q4⟩ := MulM_lv hy hz (by decide) (by decide) (by omega)
  have p2 := p2.mono (B := 6400) (by omega)
  have q2 := q2.mono (B := 6400) (by omega)
  obtain ⟨l, r1, r2, r3, r4⟩ := MulM_lv p2 hz (by decide) (by decide) (by omega)
  obtain ⟨l', s1, s2, s3, s4⟩ := MulM_lv hx q2 (by decide) (by decide) (by omega)
  have e : l' = l := by
    refine mx_ext s2 r2 s3 r3 fun i k hi hk => ?_
    rw [s4 i k hi hk, r4 i k hi hk]
    show su (fun t => pz (ev 3 x i t) (ev 6 yz t k)) b = su (fun t => pz (ev 6 xy i t) (ev 3 z t k)) c
    rw [su_congr b fun t ht => by rw [q4 t k ht hk, pz_su], su_swap]
    refine su_congr c fun t ht => ?_
    rw [p4 i t hi ht, su_pz]
    exact su_congr b fun s hs => (pz_assoc _ _ _).symm
  refine ⟨xy, yz, l, p1, q1, r1, by rw [s1, e], p2, q2, p3, r2.mono (by omega), p4⟩
theorem order_add {x y u xy : Mx} {a b c : Nat} (hx : MV 3 20 x a b) (hy : MV 3 20 y b c) (hu : MV 3 20 u b c) (hb : b ≤ 4) (h1 : MV 6 6400 xy a c) (h2 : ∀ i k, i < a → k < c → ev 6 xy i k = su (fun t => pz (ev 3 x i t) (ev 3 y t k)) b) :
    ∃ yu xu s, AddMF y u = (yu, 0) ∧ MulMF x yu = (s, 0) ∧ MulMF x u = (xu, 0) ∧ AddMF xy xu = (s, 0) ∧ MV 3 40 yu b c ∧ MV 6 6400 xu a c ∧ MV 6 12800 s a c := by
  obtain ⟨yu, p1, p2, p3, p4⟩ := AddM_lv hy hu (by decide) (by decide)
  obtain ⟨xu, q1, q2, q3, q4⟩ := MulM_lv hx hu (by decide) (by decide) (by omega)
  obtain ⟨s, r1, r2, r3, r4⟩ := MulM_lv hx p2 (by decide) (by decide) (by omega)
  have q2 := q2.mono (B := 6400) (by omega)
  obtain ⟨s', t1, t2, t3, t4⟩ := AddM_lv h1 q2 (by decide) (by decide)
  have e : s' = s := by
    refine mx_ext t2 r2 t3 r3 fun i k hi hk => ?_
    rw [t4 i k hi hk, r4 i k hi hk, h2 i k hi hk, q4 i k hi hk, ← su_pl]
    exact su_congr b fun t ht => by rw [p4 t k ht hk, pz_pl]
  exact ⟨yu, xu, s, p1, r1, q1, by rw [t1, e], p2, q2, r2.mono (by omega)⟩
theorem order_dag {x y xy : Mx} {a b c : Nat} (hx : MV 3 20 x a b) (hy : MV 3 20 y b c) (hb : b ≤ 4) (h1 : MV 6 6400 xy a c) (h2 : ∀ i k, i < a → k < c → ev 6 xy i k = su (fun t => pz (ev 3 x i t) (ev 3 y t k)) b) :
    ∃ p q t l, DaggerMF xy = (p, 0) ∧ DaggerMF x = (q, 0) ∧ DaggerMF y = (t, 0) ∧ MulMF t q = (p, 0) ∧ DaggerMF q = (l, 0) ∧ LeastMF x = (l, 0) ∧ MV 6 6400 p c a ∧ MV 3 20 q b a ∧ MV 3 20 t c b ∧ MV 3 20 l a b := by
  obtain ⟨p, p1, p2, p3, p4⟩ := DaggerM_lv h1
  obtain ⟨q, q1, q2, q3, q4⟩ := DaggerM_lv hx
  obtain ⟨t, t1, t2, t3, t4⟩ := DaggerM_lv hy
  obtain ⟨v, v1, v2, v3, v4⟩ := MulM_lv t2 q2 (by decide) (by decide) (by omega)
  obtain ⟨b', b1, b2, b3, b4⟩ := DaggerM_lv q2
  obtain ⟨l, l1, l2, l3, l4⟩ := LeastM_lv hx
  have e1 : v = p := by
    refine mx_ext v2 p2 v3 p3 fun i k hi hk => ?_
    rw [v4 i k hi hk, p4 i k hi hk, h2 k i hk hi, cz_su]
    refine su_congr b fun s hs => ?_
    rw [t4 i s hi hs, q4 s k hs hk, cz_pz, pz_comm]
  have e2 : b' = l := by
    refine mx_ext b2 l2 b3 l3 fun i k hi hk => ?_
    rw [b4 i k hi hk, q4 k i hk hi, cz_cz, l4 i k hi hk]
  exact ⟨p, q, t, l, p1, q1, t1, by rw [v1, e1], by rw [b1, e2], l1, p2, q2, t2, l2⟩
end Go.Proofs.YtmhnalikebkhjaaGreat


namespace Go.Proofs.YtmhnalikebkhjaaGreat
open Go.Proofs.YtmhnalikebkhjaaGreat.X Go.Proofs.YtmhnalikebkhjaaGreat.X.PH
set_option maxRecDepth 100000

theorem MV.lens {N : Nat} {A : Int} {m : Mx} {h w : Nat} (v : MV N A m h w) : m.length < 1000000 ∧ (∀ r ∈ m, r.length < 9223372036854775808) := by
  have rm := v.right
  have := rm.le
  have hw := rm.wle
  exact ⟨by omega, fun r hr => by rw [rm.row r hr]; omega⟩
theorem nat_of {a : Int} (h : 0 ≤ a) : ∃ n : Nat, a = n := ⟨a.toNat, by omega⟩
end Go.Proofs.YtmhnalikebkhjaaGreat


namespace Go.Proofs.YtmhnalikebkhjaaGreat
open Go.Proofs.YtmhnalikebkhjaaGreat.X Go.Proofs.YtmhnalikebkhjaaGreat.X.PH
set_option maxRecDepth 100000

/-! ### blocks -/
theorem blocks_law {x y u v : Mx} {a b c d i k : Nat} (hx : MV 3 20 x a b) (hy : MV 3 20 y c d) (hu : MV 3 20 u b i) (hv : MV 3 20 v d k) (ha : a ≤ 3) (hb : b ≤ 3) (hc : c ≤ 3) (hd : d ≤ 3) (hi : i ≤ 3) (hk : k ≤ 3) :
    ∃ xy uv xu yv l, KronMF x y = (xy, 0) ∧ KronMF u v = (uv, 0) ∧ MulMF xy uv = (l, 0) ∧ MulMF x u = (xu, 0) ∧ MulMF y v = (yv, 0) ∧ KronMF xu yv = (l, 0) ∧
      MV 6 1600 xy (a * c) (b * d) ∧ MV 6 1600 uv (b * d) (i * k) ∧ MV 6 4800 xu a i ∧ MV 6 4800 yv c k ∧ MV 12 92160000 l (a * c) (i * k) := by
  have m1 : a * c ≤ 3 * 3 := Nat.mul_le_mul ha hc
  have m2 : b * d ≤ 3 * 3 := Nat.mul_le_mul hb hd
  have m3 : i * k ≤ 3 * 3 := Nat.mul_le_mul hi hk
  obtain ⟨xy, p1, p2, p3, p4⟩ := KronM_lv hx hy (by decide) (by decide) (by omega) (by omega)
  obtain ⟨uv, q1, q2, q3, q4⟩ := KronM_lv hu hv (by decide) (by decide) (by omega) (by omega)
  obtain ⟨l, r1, r2, r3, r4⟩ := MulM_lv p2 q2 (by decide) (by decide) (by omega)
  obtain ⟨xu, s1, s2, s3, s4⟩ := MulM_lv hx hu (by decide) (by decide) (by omega)
  obtain ⟨yv, t1, t2, t3, t4⟩ := MulM_lv hy hv (by decide) (by decide) (by omega)
  have s2 := s2.mono (B := 4800) (by omega)
  have t2 := t2.mono (B := 4800) (by omega)
  obtain ⟨l', w1, w2, w3, w4⟩ := KronM_lv s2 t2 (by decide) (by decide) (by omega) (by omega)
  have hb0 : 0 < b := by rw [← hu.len]; exact hu.right.pos
  have hd0 : 0 < d := by rw [← hv.len]; exact hv.right.pos
  have hc0 : 0 < c := by rw [← hy.len]; exact hy.right.pos
  have hk0 : 0 < k := by rw [← hv.wid]; exact hv.right.wpos
  have e : l' = l := by
    refine mx_ext w2 r2 w3 r3 fun p q hp hq => ?_
    rw [w4 p q hp hq, r4 p q hp hq]
    have d1 : p / c < a := Nat.div_lt_of_lt_mul (by rw [Nat.mul_comm]; exact hp)
    have d2 : p % c < c := Nat.mod_lt _ hc0
    have d3 : q / k < i := Nat.div_lt_of_lt_mul (by rw [Nat.mul_comm]; exact hq)
    have d4 : q % k < k := Nat.mod_lt _ hk0
    show pz (ev 6 xu (p / c) (q / k)) (ev 6 yv (p % c) (q % k)) = su (fun t => pz (ev 6 xy p t) (ev 6 uv t q)) (b * d)
    rw [s4 _ _ d1 d3, t4 _ _ d2 d4, su_mul, su_pz]
    refine su_congr b fun s hs => ?_
    rw [pz_su]
    refine su_congr d fun w hw => ?_
    have hlt : s * d + w < b * d := by
      have := Nat.mul_le_mul_right d (show s + 1 ≤ b by omega)
      rw [Nat.succ_mul] at this
      omega
    rw [p4 p _ hp hlt, q4 _ q hlt hq, (divmod hw).1, (divmod hw).2]
    generalize ev 3 x (p / c) s = A
    generalize ev 3 y (p % c) w = B
    generalize ev 3 u s (q / k) = C
    generalize ev 3 v w (q % k) = D
    rw [pz_assoc, pz_assoc, ← pz_assoc C B D, ← pz_assoc B C D, pz_comm C B]
  exact ⟨xy, uv, xu, yv, l, p1, q1, r1, s1, t1, by rw [w1, e], p2, q2, s2, t2, r2.mono (by omega)⟩

/-! ### traces -/
def suL (N : Nat) : List (P4 × Int) → P4
  | [] => P4.zero
  | x :: l => pl (lv N x) (suL N l)
theorem sum_lv {N : Nat} {A : Int} (h60 : N ≤ 60) (hA : 0 ≤ A) : ∀ (l : List (P4 × Int)) (o : P4 × Int) (B : Int), IsL o → LV N B o → (∀ x ∈ l, LV N A x) → B + l.length * A ≤ 1073741824 →
    ∃ z, sumG AddF o l = (z, 0) ∧ IsL z ∧ LV N (B + l.length * A) z ∧ lv N z = pl (lv N o) (suL N l)
  | [], o, B, ho, hB, _, _ => ⟨o, rfl, ho, by simpa using hB, (pl_zero _).symm⟩
  | x :: l, o, B, ho, hB, hx, hb => by
    have e4 : ((x :: l).length : Int) * A = A + l.length * A := by
      rw [List.length_cons, Int.natCast_add, Int.add_mul]
      simp
      omega
    rw [e4] at hb ⊢
    have hl0 : 0 ≤ (l.length : Int) * A := Int.mul_nonneg (by omega) hA
    obtain ⟨a1, a2, a3, a4⟩ := Add_lv hB (hx x (by simp)) h60 (by omega)
    obtain ⟨z, z1, z2, z3, z4⟩ := sum_lv h60 hA l (AddR o x).1 (B + A) a2 a3 (fun y hy => hx y (by simp [hy])) (by omega)
    refine ⟨z, ?_, z2, by rw [← Int.add_assoc]; exact z3, ?_⟩
    · show (if (AddF o x).2 ≠ 0 then _ else sumG AddF (AddF o x).1 l) = _
      rw [Add_eq, if_neg (by simpa using a1)]
      exact z1
    · rw [z4, a4, pl_assoc]
      rfl
theorem suL_diag (N : Nat) (m : Mx) : ∀ n, suL N (diagL m n) = su (fun i => ev N m i i) n := by
  have app : ∀ (l : List (P4 × Int)) (x : P4 × Int), suL N (l ++ [x]) = pl (suL N l) (lv N x) := by
    intro l x
    induction l with
    | nil => show pl (lv N x) P4.zero = pl P4.zero (lv N x); rw [pl_zero, zero_pl]
    | cons y l ih =>
      show pl (lv N y) (suL N (l ++ [x])) = pl (pl (lv N y) (suL N l)) (lv N x)
      rw [ih, pl_assoc]
  intro n
  induction n with
  | zero => rfl
  | succ n ih =>
    rw [diagL_succ, app, ih]
    rfl
theorem trace_lv {m : Mx} {N n : Nat} {A : Int} (hm : MV N A m n n) (h60 : N ≤ 60) (hA : 0 ≤ A) (hb : n * A ≤ 1073741824) :
    ∃ z, TraceF m = (z, 0) ∧ IsL z ∧ LV N (n * A) z ∧ lv N z = su (fun i => ev N m i i) n := by
  have e1 := hm.len
  have e2 := hm.wid
  have hall : ∀ x ∈ diagL m n, LV N A x := by
    intro x hx
    unfold diagL at hx
    obtain ⟨i, hi, rfl⟩ := List.mem_map.1 hx
    have hi := List.mem_range.1 hi
    exact hm.el i i hi hi
  have herr : errsF (diagL m n) = 0 := firstErr_all fun e he => by
    obtain ⟨x, hx, rfl⟩ := List.mem_map.1 he
    exact (hall x hx).ok
  obtain ⟨z, z1, z2, z3, z4⟩ := sum_lv h60 hA (diagL m n) (P4.zero, 0) 0 zero_L (zero_LV N) hall (by rw [diagL_len]; omega)
  refine ⟨z, ?_, z2, ?_, ?_⟩
  · unfold TraceF SumF
    rw [if_neg (by rw [hm.check]; simp), if_neg (by omega), e1, herr, if_neg (by simp)]
    exact z1
  · rw [diagL_len] at z3
    rw [Int.zero_add] at z3
    exact z3
  · rw [z4, lv_zero, zero_pl, suL_diag]
theorem traced_law {x y u v : Mx} {a b : Nat} (hx : MV 3 20 x a b) (hy : MV 3 20 y b a) (hu : MV 3 20 u a a) (hv : MV 3 20 v b b) (ha : a ≤ 4) (hb : b ≤ 4) :
    ∃ xy yx kr d p t tu tv c, MulMF x y = (xy, 0) ∧ MulMF y x = (yx, 0) ∧ TraceF xy = (p, 0) ∧ TraceF yx = (p, 0) ∧ KronMF u v = (kr, 0) ∧ TraceF kr = (t, 0) ∧ TraceF u = (tu, 0) ∧ TraceF v = (tv, 0) ∧ MulF tu tv = (t, 0) ∧ DaggerMF u = (d, 0) ∧ TraceF d = (c, 0) ∧ ConjF tu = (c, 0) ∧
      MV 6 6400 xy a a ∧ MV 6 6400 yx b b ∧ MV 6 1600 kr (a * b) (a * b) ∧ MV 3 20 d a a := by
  have m1 : a * b ≤ 4 * 4 := Nat.mul_le_mul ha hb
  have hb0 : 0 < b := by rw [← hy.len]; exact hy.right.pos
  obtain ⟨xy, p1, p2, p3, p4⟩ := MulM_lv hx hy (by decide) (by decide) (by omega)
  obtain ⟨yx, q1, q2, q3, q4⟩ := MulM_lv hy hx (by decide) (by decide) (by omega)
  have p2 := p2.mono (B := 6400) (by omega)
  have q2 := q2.mono (B := 6400) (by omega)
  obtain ⟨kr, r1, r2, r3, r4⟩ := KronM_lv hu hv (by decide) (by decide) (by omega) (by omega)
  obtain ⟨d, d1, d2, d3, d4⟩ := DaggerM_lv hu
  obtain ⟨p, s1, s2, s3, s4⟩ := trace_lv p2 (by decide) (by decide) (by omega)
  obtain ⟨q, t1, t2, t3, t4⟩ := trace_lv q2 (by decide) (by decide) (by omega)
  obtain ⟨t, u1, u2, u3, u4⟩ := trace_lv r2 (by decide) (by decide) (by omega)
  obtain ⟨tu, v1, v2, v3, v4⟩ := trace_lv hu (by decide) (by decide) (by omega)
  obtain ⟨tv, w1, w2, w3, w4⟩ := trace_lv hv (by decide) (by decide) (by omega)
  obtain ⟨c, cc1, cc2, cc3, cc4⟩ := trace_lv d2 (by decide) (by decide) (by omega)
  have v3 := v3.mono (B := 80) (by omega)
  have w3 := w3.mono (B := 80) (by omega)
  obtain ⟨x1, x2, x3, x4⟩ := Mul_lv v3 w3 (by decide) (by decide)
  obtain ⟨y1, y2, y3, y4⟩ := Conj_lv v3
  have e1 : q = p := by
    refine t2.ext s2 t3.le s3.le ?_
    show lv 6 q = lv 6 p
    rw [t4, s4]
    rw [su_congr b fun i hi => q4 i i hi hi, su_congr a fun i hi => p4 i i hi hi, su_swap]
    refine su_congr a fun i hi => su_congr b fun j hj => ?_
    exact pz_comm _ _
  have e2 : (MulR tu tv).1 = t := by
    refine x2.ext u2 x3.le u3.le ?_
    show lv 6 _ = lv 6 t
    rw [x4, u4, v4, w4, su_mul, su_pz]
    refine su_congr a fun i hi => ?_
    rw [pz_su]
    refine su_congr b fun j hj => ?_
    have hlt : i * b + j < a * b := by
      have := Nat.mul_le_mul_right b (show i + 1 ≤ a by omega)
      rw [Nat.succ_mul] at this
      omega
    rw [r4 _ _ hlt hlt, (divmod hj).1, (divmod hj).2]
  have e3 : (ConjR tu).1 = c := by
    refine y2.ext cc2 y3.le cc3.le ?_
    rw [y4, cc4, v4, cz_su]
    refine su_congr a fun i hi => ?_
    rw [d4 i i hi hi]
  refine ⟨xy, yx, kr, d, p, t, tu, tv, c, p1, q1, s1, by rw [t1, e1], r1, u1, v1, w1, ?_, d1, cc1, ?_, p2, q2, r2, d2⟩
  · rw [Mul_eq]
    exact Prod.ext e2 x1
  · rw [Conj_eq]
    exact Prod.ext e3 y1
end Go.Proofs.YtmhnalikebkhjaaGreat


namespace Go.Proofs.YtmhnalikebkhjaaGreat
open Go.Proofs.YtmhnalikebkhjaaGreat.X Go.Proofs.YtmhnalikebkhjaaGreat.X.PH
set_option maxRecDepth 100000

/-! ### Rows of one's own, one by one -/
structure RowsS (M : PH) (us : List Value) (m : Mx) : Prop where
  len : us.length = m.length
  row : ∀ (i : Nat) (u : Value) (r : List (P4 × Int)), us[i]? = some u → m[i]? = some r → NumO M u r
  apart : ∀ (i j : Nat) (b n c n' c' : Nat), us[i]? = some (.slice (some ⟨b, 0, none⟩) n c) → us[j]? = some (.slice (some ⟨b, 0, none⟩) n' c') → i = j
theorem RowsS.keep {M M' : PH} {us : List Value} {m : Mx} (h : RowsS M us m) (hk : ∀ (n : Nat) cs, M n = some (.cells cs 36 (0, 0)) → M' n = some (.cells cs 36 (0, 0))) : RowsS M' us m :=
  ⟨h.len, fun i u r hu hr => OwnS.keep (h.row i u r hu hr) hk, h.apart⟩
theorem RowsS.snoc {M N : PH} {us : List Value} {m : Mx} {u : Value} {r : List (P4 × Int)} (h : RowsS M us m) (hd : Dis N M) (hu : NumO N u r) : RowsS (un N M) (us ++ [u]) (m ++ [r]) := by
  refine ⟨by simp [h.len], fun i u' r' hu' hr' => ?_, fun i j b n c n' c' hi hj => ?_⟩
  · rcases Nat.lt_trichotomy i m.length with hi | hi | hi
    · rw [List.getElem?_append_left (by rw [h.len]; exact hi)] at hu'
      rw [List.getElem?_append_left hi] at hr'
      exact OwnS.keep (h.row i u' r' hu' hr') fun n cs hn => un_right hd hn
    · subst hi
      rw [← h.len, List.getElem?_concat_length] at hu'
      rw [List.getElem?_concat_length] at hr'
      cases hu'
      cases hr'
      exact OwnS.keep hu fun n cs hn => un_l n _ hn
    · rw [List.getElem?_eq_none (by simp; omega)] at hr'
      cases hr'
  · have old : ∀ (i b n c : Nat), us[i]? = some (.slice (some ⟨b, 0, none⟩) n c) → M b ≠ none := by
      intro i b n c hi
      have hl := (List.getElem?_eq_some_iff.1 hi).1
      have hl' : i < m.length := by rw [← h.len]; exact hl
      rcases (h.row i _ _ hi (List.getElem?_eq_getElem hl')).2 with ⟨e, _⟩ | ⟨b', cap, spare, e, hO, _⟩
      · cases e
      · cases e; rw [hO]; simp
    have new : ∀ (b n c : Nat), u = .slice (some ⟨b, 0, none⟩) n c → N b ≠ none := by
      intro b n c e
      rcases hu.2 with ⟨e', _⟩ | ⟨b', cap, spare, e', hO, _⟩
      · rw [e] at e'; cases e'
      · rw [e] at e'; cases e'; rw [hO]; simp
    have pos : ∀ (i : Nat) (v : Value), (us ++ [u])[i]? = some v → (i < us.length ∧ us[i]? = some v) ∨ (i = us.length ∧ u = v) := by
      intro i v hv
      rcases Nat.lt_trichotomy i us.length with hl | hl | hl
      · rw [List.getElem?_append_left hl] at hv
        exact .inl ⟨hl, hv⟩
      · subst hl
        rw [List.getElem?_concat_length] at hv
        cases hv
        exact .inr ⟨rfl, rfl⟩
      · rw [List.getElem?_eq_none (by simp; omega)] at hv
        cases hv
    rcases pos _ _ hi with ⟨l1, e1⟩ | ⟨l1, e1⟩ <;> rcases pos _ _ hj with ⟨l2, e2⟩ | ⟨l2, e2⟩
    · exact h.apart i j b n c n' c' e1 e2
    · exact absurd ((hd b).resolve_left (new _ _ _ e2)) (old _ _ _ _ e1)
    · exact absurd ((hd b).resolve_left (new _ _ _ e1)) (old _ _ _ _ e2)
    · omega
theorem un_t {M N : PH} (hd : Dis N M) {n : Nat} {o : Obj} (h : M n = some o) : un N M n = some o := un_right hd h
set_option maxHeartbeats 1000000 in
theorem c15o (m : Mx) (H : PH) (v : Value) (hv : MatH H v m) (hlen : m.length ≤ 100000) (hrow : ∀ r ∈ m, r.length ≤ 100000) :
    Cl Tryz.prog 53 [v] H emp fun r H' M' => ∃ us, OwnS M' 1 43 r (us.map fun u => [u]) ∧ RowsS M' us m := by
  obtain ⟨base, cap, rfl⟩ := hv.sl
  refine Cl_of (pol := fun | 15 => .imm | _ => .loc) Γok Tryz.func53 (by kernel_rfl) rfl ?_
  conv => whnf
  refine W_loop (pol := fun | 15 => .imm | _ => .loc) Γok (Nat × PH × Value × PH) (fun i => i.1 ≤ m.length ∧ Sub H i.2.1 ∧ ∃ us, OwnS i.2.2.2 1 43 i.2.2.1 (us.map fun u => [u]) ∧ RowsS i.2.2.2 us (m.take i.1)) (fun i => m.length - i.1) (fun i => [(8, .v (.int .i64 i.1)), (3, .v i.2.2.1)]) (fun _ => []) (fun i => i.2.1) (fun i => i.2.2.2) ⟨(0, H, .slice none 0 0, emp), ⟨by simp, Sub.refl _, [], ?_, ?_⟩, rfl, rfl, ?_⟩ ?_
  · exact ⟨by simp, .inl ⟨rfl, by simp⟩⟩
  · exact ⟨by simp, by simp, by simp⟩
  · conv => whnf
    repeat (refine ⟨rfl, ?_⟩; conv => whnf)
    exact trivial
  · rintro ⟨i, H', out, O'⟩ ⟨h1, h2, us, h3, h4⟩
    dsimp only at h1 h2 h3 h4
    conv => whnf
    refine if_intro (fun h => ?_) (fun h => ?_)
    · have hi : i < m.length := by simpa using h
      obtain ⟨b, off, base', cap', rfl, hrd, hn⟩ := (hv.up h2).at hi
      conv => whnf
      refine dec_intro (by simpa using hi) ?_
      conv => whnf
      refine ⟨_, hrd _ _ (Sub.refl _), ?_⟩
      conv => whnf
      refine (c43 m[i] _ _ hn (hrow _ (List.getElem_mem hi))).pure.mono fun r H2 O2 hs hr => ?_
      obtain ⟨N, hp, hr⟩ := hr
      have hd := hp.dis
      have h3' : OwnS O2 1 43 out (us.map fun u => [u]) := OwnS.keep h3 fun n cs hn => hp.right _ _ hn
      have h4' : RowsS O2 (us ++ [r]) (m.take i ++ [m[i]]) := by
        rw [show O2 = un N O' from funext hp.all]
        exact h4.snoc hd hr
      obtain ⟨rb, rn, rc, rfl⟩ := OwnS.sl hr
      conv => whnf
      intro b2 hb2 hO2
      conv => whnf
      refine append_one' (xs := us.map fun u => [u]) (y := [.slice rb rn rc]) h3' rfl rfl (by intro v hv; simp at hv; subst hv; rfl) ⟨_, _, _, rfl, rfl, Rd.whole (ins_same _ _ _)⟩ ?_ fun v O3 hO3 hkeep => ?_
      · have := h4.len
        simp at this ⊢
        omega
      conv => whnf
      have hs2 := sub_ins H2 (.cells ⟨[.slice rb rn rc]⟩ 43 (0, 0)) hb2
      refine ⟨(i + 1, ins H2 b2 (.cells ⟨[.slice rb rn rc]⟩ 43 (0, 0)), v, O3), ⟨hi, (h2.trans hs).trans hs2, us ++ [.slice rb rn rc], ?_, ?_⟩, by dsimp only; omega, ?_⟩
      · show OwnS O3 1 43 v _
        rw [List.map_append]
        exact hO3
      · dsimp only
        rw [List.take_succ_eq_append_getElem hi]
        exact h4'.keep fun n cs hn => hkeep n _ hn fun cap => OwnS.not_at h3' hn (by decide) _ _
      · conv => whnf
        refine ⟨rfl, rfl, ?_⟩
        conv => whnf
        repeat (refine ⟨rfl, ?_⟩; conv => whnf)
        refine ⟨by show En.v (.int .i64 (IntKind.i64.wrap (i + 1))) = _; rw [wrap_id (by omega) (by omega)]; rfl, ?_⟩
        conv => whnf
        repeat (refine ⟨rfl, ?_⟩; conv => whnf)
        exact trivial
    · have hi : m.length ≤ i := by simpa using h
      conv => whnf
      rw [List.take_of_length_le hi] at h4
      exact ⟨us, h3, h4⟩
/-- They may be read. -/
theorem RowsS.share {H M : PH} (hd : Dis H M) {v : Value} {us : List Value} {m : Mx} (h : OwnS M 1 43 v (us.map fun u => [u])) (hr : RowsS M us m) : MatH (un H M) v m := by
  refine ⟨us, hr.len, ?_, fun i r u hr' hu => NumO.share (hr.row i u r hu hr') hd⟩
  have hl := hr.len
  rcases h.2 with ⟨rfl, h0⟩ | ⟨b, cap, spare, rfl, hO, hcap, hsp⟩
  · have : us = [] := by simpa using h0
    subst this
    exact ⟨none, 0, by rw [← hl]; rfl, .inl ⟨hl.symm, rfl⟩⟩
  · refine ⟨some ⟨b, 0, none⟩, cap, by simp [hl], .inr ⟨b, 0, _, _, _, rfl, un_right hd hO, ?_⟩⟩
    have : ∀ us : List Value, (us.map fun u => [u]).flatten = us := by
      intro us
      induction us with
      | nil => rfl
      | cons u us ih => simp only [List.map_cons, List.flatten_cons, ih]; rfl
    rw [this us]
    simp
end Go.Proofs.YtmhnalikebkhjaaGreat


namespace Go.Proofs.YtmhnalikebkhjaaGreat
open Go.Proofs.YtmhnalikebkhjaaGreat.X Go.Proofs.YtmhnalikebkhjaaGreat.X.PH
set_option maxRecDepth 100000

theorem OwnS.at1 {H O : PH} {base : Option Addr} {n cap : Nat} {us : List Value} (h : OwnS O 1 43 (.slice base n cap) (us.map fun u => [u])) {i : Nat} (hi : i < us.length) :
    n = us.length ∧ ∃ b, base = some ⟨b, 0, none⟩ ∧ (∃ cs, O b = some (.cells ⟨cs⟩ 43 (0, 0))) ∧ Rd H O ⟨b, 0 + i * 1, none⟩ 1 [us[i]] := by
  rcases h.2 with ⟨e, h0⟩ | ⟨b, cap', spare, e, hO, hcap, hsp⟩
  · have : us = [] := by simpa using h0
    subst this
    simp at hi
  · cases e
    have hfl : ∀ us : List Value, (us.map fun u => [u]).flatten = us := by
      intro us
      induction us with
      | nil => rfl
      | cons u us ih => simp only [List.map_cons, List.flatten_cons, ih]; rfl
    rw [hfl] at hO
    refine ⟨by simp, b, rfl, ⟨_, hO⟩, rfl, rfl, _, _, _, .inr hO, ?_⟩
    rw [Nat.zero_add, Nat.mul_one]
    show List.take 1 (List.drop i (us ++ spare)) = _
    rw [List.drop_append_of_le_length (by omega), List.drop_eq_getElem_cons hi]
    rfl
/-- The first number of a row gets another A. -/
def pokeL (a : Int) : List (P4 × Int) → List (P4 × Int)
  | [] => []
  | x :: l => ((⟨a, x.1.b, x.1.c, x.1.d⟩ : P4), x.2) :: l
def pokeM (m : Mx) (i : Nat) (a : Int) : Mx := m.set i (pokeL a (m.getD i []))
theorem RowsS.poke {O : PH} {us : List Value} {m : Mx} (h : RowsS O us m) {i : Nat} (hi : i < m.length) (h0 : 0 < m[i].length) :
    ∃ b c cs, us[i]? = some (.slice (some ⟨b, 0, none⟩) m[i].length c) ∧ O b = some (.cells ⟨cs⟩ 36 (0, 0)) ∧ (∀ H, Rd H O ⟨b, 0 + 0 * 5 + 0, none⟩ 1 [.int .i64 (m[i][0]).1.a]) ∧ 1 ≤ cs.length ∧
      ∀ a, RowsS (ins O b (.cells ⟨cs.take (0 + 0 * 5 + 0) ++ [.int .i64 a] ++ cs.drop (0 + 0 * 5 + 0 + 1)⟩ 36 (0, 0))) us (pokeM m i a) := by
  have hu : i < us.length := by rw [h.len]; exact hi
  have hr := h.row i us[i] m[i] (List.getElem?_eq_getElem hu) (List.getElem?_eq_getElem hi)
  obtain ⟨x, l, hxl⟩ : ∃ x l, m[i] = x :: l := by
    cases e : m[i] with
    | nil => rw [e] at h0; simp at h0
    | cons x l => exact ⟨x, l, rfl⟩
  rcases hr.2 with ⟨_, e⟩ | ⟨b, cap, spare, e, hO, hcap, hsp⟩
  · have : m[i] = [] := by simpa using e
    rw [this] at h0
    simp at h0
  have hx0 : m[i][0] = x := by simp [hxl]
  have hcs : ((m[i].map cellsOf).flatten ++ spare) = cellsOf x ++ ((l.map cellsOf).flatten ++ spare) := by rw [hxl]; simp
  refine ⟨b, cap, _, ?_, hO, fun H => ⟨rfl, rfl, _, _, _, .inr hO, ?_⟩, ?_, fun a => ⟨?_, fun j u r hu' hr' => ?_, h.apart⟩⟩
  · rw [List.getElem?_eq_getElem hu, e]
    simp
  · dsimp only
    rw [hcs, hx0]
    rfl
  · rw [hcs]
    simp [cellsOf]
  · unfold pokeM
    rw [List.length_set]
    exact h.len
  · unfold pokeM at hr'
    by_cases ej : j = i
    · subst ej
      rw [List.getElem?_set_self hi] at hr'
      cases hr'
      rw [List.getElem?_eq_getElem hu] at hu'
      cases hu'
      have hp : pokeL a (m.getD j []) = ((⟨a, x.1.b, x.1.c, x.1.d⟩ : P4), x.2) :: l := by
        rw [show m.getD j [] = m[j] by simp [List.getD_eq_getElem?_getD, hi], hxl]
        rfl
      rw [hp]
      refine ⟨fun y hy => ?_, .inr ⟨b, cap, spare, ?_, ?_, ?_, ?_⟩⟩
      · obtain ⟨z, _, rfl⟩ := List.mem_map.1 hy
        rfl
      · rw [e, hxl]; simp
      · rw [ins_same, hcs]
        simp [cellsOf]
      · rw [hxl] at hcap; simpa using hcap
      · rw [hxl] at hsp; simpa using hsp
    · rw [List.getElem?_set_ne (Ne.symm ej)] at hr'
      obtain ⟨q1, q2⟩ := h.row j u r hu' hr'
      refine ⟨q1, q2.imp id ?_⟩
      rintro ⟨b', cap', sp', e', hO', q3, q4⟩
      refine ⟨b', cap', sp', e', (ins_ne _ _ fun eb => ej ?_).trans hO', q3, q4⟩
      subst eb
      exact h.apart j i b' _ _ _ _ (hu'.trans (congrArg some e')) ((List.getElem?_eq_getElem hu).trans (congrArg some e))
/-! ### what a matrix of small numbers is -/
theorem small_ok {z r : Int} {m : Mx} {h w : Nat} (hs : Small z r m h w) (h1 : 0 < h) (h2 : h ≤ 64) (w1 : 0 < w) (w2 : w ≤ 64) (hz : z ≤ 1073741824) (hr : r ≤ 60) : Right m ∧ wideM m = w ∧ checkMF m = 0 ∧ ∀ i k, i < h → k < w → NumB z r (entry m i k) := by
  obtain ⟨r1, r2⟩ := small_right hs h1 h2 w1 w2
  have he : ∀ i k, i < h → k < w → NumB z r (entry m i k) := by
    intro i k hi hk
    have hi' : i < m.length := by rw [hs.1]; exact hi
    have hx := hs.2 _ (List.getElem_mem hi')
    have hk' : k < m[i].length := by rw [hx.1]; exact hk
    rw [entry_get hi' hk']
    exact hx.2 _ (List.getElem_mem hk')
  refine ⟨r1, r2, check_grid r1 fun i k hi hk => ?_, he⟩
  have := he i k (by rw [← hs.1]; exact hi) (by rw [← r2]; exact hk)
  exact in_right this.k0 (by have := this.k1; omega) (within_mono this.co hz)
theorem poke_small {m : Mx} {h w i : Nat} {a : Int} (hs : Small 5 3 m h w) (ha : -6 ≤ a ∧ a ≤ 6) : Small 6 3 (pokeM m i a) h w := by
  refine ⟨by unfold pokeM; rw [List.length_set]; exact hs.1, fun r hr => ?_⟩
  have up : ∀ r ∈ m, r.length = w ∧ ∀ y ∈ r, NumB 6 3 y := fun r hr => ⟨(hs.2 r hr).1, fun y hy => ⟨within_mono ((hs.2 r hr).2 y hy).co (by decide), ((hs.2 r hr).2 y hy).k0, ((hs.2 r hr).2 y hy).k1⟩⟩
  unfold pokeM at hr
  rcases List.mem_or_eq_of_mem_set hr with hr | hr
  · exact up r hr
  · subst hr
    by_cases hi : i < m.length
    · have e : m.getD i [] = m[i] := by simp [List.getD_eq_getElem?_getD, hi]
      rw [e]
      have hu := up _ (List.getElem_mem hi)
      cases hm : m[i] with
      | nil => rw [hm] at hu; exact ⟨hu.1, fun y hy => by simp [pokeL] at hy⟩
      | cons x l =>
        rw [hm] at hu
        refine ⟨hu.1, fun y hy => ?_⟩
        rcases List.mem_cons.1 hy with rfl | hy
        · have hx := hu.2 x (by simp)
          have hc := hx.co
          unfold P4.within at hc
          exact ⟨⟨ha, hc.2⟩, hx.k0, hx.k1⟩
        · exact hu.2 y (by simp [hy])
    · rw [List.set_eq_of_length_le (by omega)] at hr
      exact up _ hr
/-! ### powers of w -/
theorem omega_LV (n : Int) : LV 0 1 (OmegaF n) := by
  unfold OmegaF
  have hk : (n % 8).toNat < 8 := by omega
  generalize (n % 8).toNat = k at hk
  rcases (show k = 0 ∨ k = 1 ∨ k = 2 ∨ k = 3 ∨ k = 4 ∨ k = 5 ∨ k = 6 ∨ k = 7 by omega) with rfl | rfl | rfl | rfl | rfl | rfl | rfl | rfl <;> exact ⟨by decide, by decide, by unfold P4.within; decide⟩
theorem Mul_comm {x y : P4 × Int} (hx : checkF x.1 x.2 = 0) (hy : checkF y.1 y.2 = 0) : MulF x y = MulF y x := by
  rw [Mul_eq, Mul_eq, (Mul_fits hx hy).1, (Mul_fits hy hx).1, pz_comm, Int.add_comm]
/-- A matrix of small numbers times a power of w. -/
theorem scale_omega {x : Mx} {h w : Nat} (hx : MV 3 20 x h w) (n : Int) : ∃ y, ScaleMF x (OmegaF n) = (y, 0) ∧ MV 3 80 y h w ∧ ML y ∧ ∀ i k, i < h → k < w → entry y i k = (MulF (OmegaF n) (entry x i k)).1 := by
  have rm := hx.right
  have e1 := hx.len
  have e2 := hx.wid
  have ho := omega_LV n
  have key : ∀ i k, i < h → k < w → (scaleAt x (OmegaF n) i k).2 = 0 ∧ IsL (scaleAt x (OmegaF n) i k).1 ∧ LV 3 80 (scaleAt x (OmegaF n) i k).1 := by
    intro i k hi hk
    unfold scaleAt
    rw [Mul_eq]
    obtain ⟨m1, m2, m3, m4⟩ := Mul_lv (hx.el i k hi hk) ho (by decide) (by decide)
    exact ⟨m1, m2, m3⟩
  obtain ⟨y, p1, p2, p3, p4⟩ := grid_lv (F := scaleAt x (OmegaF n)) (N := 3) (A := 80) (e := 0) (by rw [← e1]; exact rm.pos) (by rw [← e1]; exact rm.le) (by rw [← e2]; exact rm.wpos) (by rw [← e2]; exact rm.wle) rfl key
  refine ⟨y, ?_, p2, p3, fun i k hi hk => ?_⟩
  · unfold ScaleMF
    rw [hx.check, if_neg (by simp), ho.ok, e1, e2]
    exact p1
  · rw [p4 i k hi hk]
    unfold scaleAt
    rw [Mul_comm (hx.el i k hi hk).ok ho.ok]
theorem alike_of {m n : Mx} {h w : Nat} (a : m.length = h) (b : wideM m = w) (c : n.length = h) (d : wideM n = w) : alikeF m n = true := by
  unfold alikeF
  rw [a, b, c, d]
  simp
theorem errs_of {m n : Mx} (a : checkMF m = 0) (b : checkMF n = 0) : errsM [m, n] = 0 := by
  unfold errsM
  simp [firstErr, a, b]
theorem omega_mod (n : Int) : OmegaF (((n % 8).toNat : Nat) : Int) = OmegaF n := by
  unfold OmegaF
  congr 2
  omega
/-- A matrix that differs by a power of w: which one is found, and the other one times it. -/
theorem phase_found {u x : Mx} {h w : Nat} (hu : checkMF u = 0) (ru : Right u) (ul : u.length = h) (uw : wideM u = w) (hx : MV 3 20 x h w) :
    (∃ k : Nat, k < 8 ∧ PhaseF u x = (((k : Nat) : Int), 0) ∧ allPh u x k = true ∧ ∀ j, allPh u x j = true → k ≤ j) ∨ (PhaseF u x = (0, 6) ∧ ∀ j, j < 8 → allPh u x j = false) := by
  unfold PhaseF
  rw [errs_of hu hx.check, if_neg (by simp), alike_of ul uw hx.len hx.wid, if_neg (by simp)]
  cases hf : (List.range 8).find? (allPh u x) with
  | none =>
    refine .inr ⟨rfl, fun j hj => ?_⟩
    have := List.find?_eq_none.1 hf j (List.mem_range.2 hj)
    simpa using this
  | some k =>
    have hk := List.mem_range.1 (List.mem_of_find?_eq_some hf)
    have hp := List.find?_some hf
    refine .inl ⟨k, hk, rfl, hp, fun j hj => ?_⟩
    rcases Nat.lt_or_ge j k with hlt | hge
    · rw [List.find?_range_eq_some] at hf
      have := hf.2.2 j hlt
      rw [hj] at this
      cases this
    · exact hge
theorem phased_same {u x z : Mx} {h w k : Nat} (hu : checkMF u = 0) (ul : u.length = h) (uw : wideM u = w) (h0 : 0 < h) (hx : MV 3 20 x h w) (hz : MV 3 80 z h w) (lz : ML z) (hent : ∀ i q, i < h → q < w → entry z i q = (MulF (OmegaF k) (entry x i q)).1) (ha : allPh u x k = true) : sameF u z = true ∧ sameF z u = true := by
  have w0 : 0 < w := by rw [← hx.wid]; exact hx.right.wpos
  have key : ∀ t, t < h * w → (LeastF (entry u (t / w) (t % w)).1 (entry u (t / w) (t % w)).2).1 = entry z (t / w) (t % w) ∧ (LeastF (entry z (t / w) (t % w)).1 (entry z (t / w) (t % w)).2).1 = entry z (t / w) (t % w) := by
    intro t ht
    have t1 : t / w < h := Nat.div_lt_of_lt_mul (by rw [Nat.mul_comm]; exact ht)
    have t2 : t % w < w := Nat.mod_lt _ w0
    unfold allPh at ha
    rw [ul, uw] at ha
    have := List.all_eq_true.1 ha t (List.mem_range.2 ht)
    unfold samePh at this
    rw [uw] at this
    refine ⟨by rw [eqN_iff.1 this, hent _ _ t1 t2], ?_⟩
    have hL := lz (t / w) (t % w) (by rw [hz.len]; exact t1) (by rw [hz.wid]; exact t2)
    rw [hL.least]
  constructor
  · unfold sameF
    rw [alike_of ul uw hz.len hz.wid, Bool.true_and, ul, uw]
    refine List.all_eq_true.2 fun t ht => ?_
    unfold samePl
    rw [uw]
    obtain ⟨k1, k2⟩ := key t (List.mem_range.1 ht)
    rw [k1, k2]
    exact eqN_iff.2 rfl
  · unfold sameF
    rw [alike_of hz.len hz.wid ul uw, Bool.true_and, hz.len, hz.wid]
    refine List.all_eq_true.2 fun t ht => ?_
    unfold samePl
    rw [hz.wid]
    obtain ⟨k1, k2⟩ := key t (List.mem_range.1 ht)
    rw [k1, k2]
    exact eqN_iff.2 rfl
/-- The first part of the law. -/
theorem phased_one {x y : Mx} {h w : Nat} (hx : MV 3 20 x h w) (n : Int) (h0 : 0 < h) (hy : ScaleMF x (OmegaF n) = (y, 0)) :
    ∃ (k : Nat) (z : Mx), k < 8 ∧ (k : Int) ≤ n % 8 ∧ PhaseF y x = (((k : Nat) : Int), 0) ∧ ScaleMF x (OmegaF k) = (z, 0) ∧ errsM [z, y] = 0 ∧ sameF z y = true := by
  obtain ⟨y', p1, p2, p3, p4⟩ := scale_omega hx n
  rw [hy] at p1
  cases p1
  have hall : allPh y x (n % 8).toNat = true := by
    have w0 : 0 < w := by rw [← hx.wid]; exact hx.right.wpos
    unfold allPh
    refine List.all_eq_true.2 fun t ht => ?_
    rw [p2.len, p2.wid] at ht
    have ht := List.mem_range.1 ht
    have t1 : t / w < h := Nat.div_lt_of_lt_mul (by rw [Nat.mul_comm]; exact ht)
    have t2 : t % w < w := Nat.mod_lt _ w0
    unfold samePh
    rw [p2.wid, (p3 _ _ (by rw [p2.len]; exact t1) (by rw [p2.wid]; exact t2)).least, p4 _ _ t1 t2, omega_mod]
    exact eqN_iff.2 rfl
  rcases phase_found p2.check p2.right p2.len p2.wid hx with ⟨k, hk, h1, h2, h3⟩ | ⟨_, h2⟩
  · have hle := h3 _ hall
    obtain ⟨z, z1, z2, z3, z4⟩ := scale_omega hx (k : Int)
    refine ⟨k, z, hk, by omega, h1, z1, errs_of z2.check p2.check, ?_⟩
    exact (phased_same p2.check p2.len p2.wid h0 hx z2 z3 z4 h2).2
  · have := h2 (n % 8).toNat (by omega)
    rw [hall] at this
    cases this
theorem phased_two {u x : Mx} {h w : Nat} (hx : MV 3 20 x h w) (hu : Small 6 3 u h w) (h0 : 0 < h) (h64 : h ≤ 64) (w0 : 0 < w) (w64 : w ≤ 64) :
    (∃ (k : Nat) (z : Mx), k < 8 ∧ PhaseF u x = (((k : Nat) : Int), 0) ∧ ScaleMF x (OmegaF ((k : Nat) : Int)) = (z, 0) ∧ errsM [u, z] = 0 ∧ sameF u z = true ∧ MV 3 80 z h w) ∨ PhaseF u x = (0, 6) := by
  obtain ⟨r1, r2, r3, _⟩ := small_ok hu h0 h64 w0 w64 (by decide) (by decide)
  rcases phase_found r3 r1 hu.1 r2 hx with ⟨k, hk, h1, h2, h3⟩ | ⟨h1, _⟩
  · obtain ⟨z, z1, z2, z3, z4⟩ := scale_omega hx (k : Int)
    exact .inl ⟨k, z, hk, h1, z1, errs_of r3 z2.check, (phased_same r3 hu.1 r2 h0 hx z2 z3 z4 h2).1, z2⟩
  · exact .inr h1
end Go.Proofs.YtmhnalikebkhjaaGreat

namespace Go.Proofs.YtmhnalikebkhjaaGreat.X
open Go PH
section
variable {P : Program} {r : Option Nat}
/-- Some code may read a part of what is one's own as if it never changed; behind it this part is one's own again. -/
theorem W_lend {c : Code} {env : List En} {loc : List (Option B)} {H O L R : PH} {K : Exit → S → Prop} (hp : Parts O L R)
    (h : Dis H L → W P r c ⟨env, loc, un H L, R⟩ fun e s' => match s' with
      | ⟨env', loc', H', O'⟩ => Sub L H' ∧ (∀ (i : Nat) (b : B), loc'[i]? = some (some b) → b.pub = true → L b.n = none) ∧
        ∀ H2, (∀ n, L n = none → H2 n = H' n) → (∀ n, L n ≠ none → H2 n = none) → K e ⟨env', loc', H2, un L O'⟩) : W P r c ⟨env, loc, H, O⟩ K := by
  have hLO := hp.left
  unfold W
  intro φ a w hr hR
  have hd : Dis H L := fun n => by
    rcases hR.dis n with e | e
    · exact .inl e
    · exact .inr (hp.non e).1
  have hun : ∀ n, L n = none → un H L n = H n := fun n hn => by
    unfold un
    cases e : H n with
    | none => exact hn
    | some o => rfl
  have hR1 : Real φ ⟨env, loc, un H L, R⟩ a w := by
    refine ⟨hR.size, hR.env, fun i b hb => ?_, hR.apart, ?_, In.sub hR.inO hp.right, ?_, ?_, ?_, hR.frm, hR.uniq, fun d hd' => ?_⟩
    · obtain ⟨h1, h2, h3, h4⟩ := hR.loc i b hb
      obtain ⟨l1, l2⟩ := hp.non h2
      refine ⟨h1, l2, fun hpub => ?_, fun hpub => ?_⟩
      · dsimp only; rw [hun _ l1]; exact h3 hpub
      · dsimp only; rw [hun _ l1]; exact h4 hpub
    · intro n o hn
      dsimp only at hn
      unfold un at hn
      cases e : H n with
      | some o' => rw [e] at hn; cases hn; exact hR.inH n _ e
      | none => rw [e] at hn; exact hR.inO n _ (hLO n _ hn)
    · intro n
      dsimp only
      cases e : R n with
      | none => exact .inr rfl
      | some o =>
        refine .inl ?_
        have l1 : L n = none := (hp.dis n).resolve_right (by rw [e]; simp)
        rw [hun n l1]
        exact (hR.dis n).resolve_right (by dsimp only; rw [hp.right n o e]; simp)
    · intro n o hn
      have := hR.sub n o hn
      dsimp only at this ⊢
      unfold un
      rw [this]
    · intro n hn hm
      obtain ⟨h1, h2⟩ := hR.old n hn hm
      obtain ⟨l1, l2⟩ := hp.non h2
      exact ⟨(hun n l1).trans h1, l2⟩
    · obtain ⟨q, q1, q2, q3, q4, q5, q6⟩ := hR.marks d hd'
      obtain ⟨l1, l2⟩ := hp.non q5
      exact ⟨q, q1, q2, q3, (hun q l1).trans q4, l2, q6⟩
  have h' := h hd
  unfold W at h'
  refine wpIn_mono (h' φ a w hr hR1) ?_
  rintro e a' w' ⟨hok, ⟨env', loc', H', O'⟩, ⟨hL, hlf, hk⟩, hR'⟩
  refine ⟨hok, _, hk (fun n => match L n with | some _ => none | none => H' n) (fun n hn => by simp [hn]) (fun n hn => by
    cases e : L n with
    | none => exact absurd e hn
    | some o => simp), ?_⟩
  have k1 : ∀ n, L n = none → (match L n with | some _ => none | none => H' n : Option Obj) = H' n := fun n hn => by rw [hn]
  have k2 : ∀ n, L n = none → un L O' n = O' n := fun n hn => by unfold un; rw [hn]
  have k3 : ∀ n, H' n = none → (match L n with | some _ => none | none => H' n : Option Obj) = none := fun n hn => by
    cases L n with
    | some _ => rfl
    | none => exact hn
  have hLn : ∀ n, H' n = none → L n = none := fun n hn => by
    cases e : L n with
    | none => rfl
    | some o => rw [hL n o e] at hn; cases hn
  refine ⟨hR'.size, hR'.env, fun i b hb => ?_, hR'.apart, ?_, ?_, ?_, ?_, ?_, hR'.frm, hR'.uniq, fun d hd' => ?_⟩
  · obtain ⟨h1, h2, h3, h4⟩ := hR'.loc i b hb
    have hb0 : L b.n = none := by
      cases hpub : b.pub with
      | true => exact hlf i b hb hpub
      | false => exact hLn _ (h4 hpub).1
    refine ⟨h1, (k2 _ hb0).trans h2, fun hpub => (k1 _ hb0).trans (h3 hpub), fun hpub => ⟨(k1 _ hb0).trans (h4 hpub).1, (h4 hpub).2⟩⟩
  · intro n o hn
    dsimp only at hn
    cases e : L n with
    | some o' => rw [e] at hn; cases hn
    | none => rw [e] at hn; exact hR'.inH n o hn
  · intro n o hn
    dsimp only at hn
    unfold un at hn
    cases e : L n with
    | some o' => rw [e] at hn; cases hn; exact hR'.inH n _ (hL n _ e)
    | none => rw [e] at hn; exact hR'.inO n o hn
  · intro n
    dsimp only
    cases e : L n with
    | some o' => exact .inl rfl
    | none =>
      rcases hR'.dis n with h1 | h1
      · exact .inl h1
      · exact .inr (by unfold un; rw [e]; exact h1)
  · intro n o hn
    have h1 := hR.sub n o hn
    have h2 : L n = none := (hd n).resolve_left (by dsimp only at h1; rw [h1]; simp)
    exact (k1 n h2).trans (hR'.sub n o hn)
  · intro n hn hm
    obtain ⟨h1, h2⟩ := hR.old n hn hm
    obtain ⟨g1, g2⟩ := hR'.old n hn hm
    have l1 := (hp.non h2).1
    exact ⟨(k1 n l1).trans g1, (k2 n l1).trans g2⟩
  · obtain ⟨q, q1, q2, q3, q4, q5, q6⟩ := hR'.marks d hd'
    exact ⟨q, q1, q2, q3, k3 q q4, (k2 q (hLn q q4)).trans q5, q6⟩
end
end Go.Proofs.YtmhnalikebkhjaaGreat.X


namespace Go.Proofs.YtmhnalikebkhjaaGreat
open Go.Proofs.YtmhnalikebkhjaaGreat.X Go.Proofs.YtmhnalikebkhjaaGreat.X.PH
set_option maxRecDepth 100000

/-- All that is new may be said to be one's own. -/
theorem Cl.own {P : Program} {f : FuncId} {args : List Value} {H M : PH} {Q : Value → PH → PH → Prop} (h : Cl P f args H M Q) :
    Cl P f args H M fun v H2 M2 => H2 = H ∧ ∃ H' M', Q v H' M' ∧ Sub H H' ∧ Dis H' M' ∧ Sub M' M2 ∧ ∀ n o, H n = none → H' n = some o → M2 n = some o := by
  unfold Cl at *
  refine ⟨h.1, fun w hH hM hd => (h.2 w hH hM hd).mono ?_⟩
  rintro e w' ⟨v, H', M', he, p, hq⟩
  have hMn : ∀ n o, M' n = some o → H n = none := fun n o hn => by
    cases e : H n with
    | none => rfl
    | some o' =>
      have h1 := p.sub n o' e
      rcases p.dis n with h2 | h2
      · rw [h1] at h2; cases h2
      · rw [hn] at h2; cases h2
  refine ⟨v, H, fun n => match H n with | some _ => none | none => un H' M' n, he, ⟨Sub.refl H, In.sub p.inH p.sub, ?_, ?_, ?_, p.frm⟩, rfl, H', M', hq, p.sub, p.dis, ?_, ?_⟩
  · intro n o hn
    dsimp only at hn
    cases e : H n with
    | some o' => rw [e] at hn; cases hn
    | none =>
      rw [e] at hn
      dsimp only at hn
      unfold un at hn
      cases e' : H' n with
      | some o' => rw [e'] at hn; cases hn; exact p.inH n _ e'
      | none => rw [e'] at hn; exact p.inM n _ hn
  · intro n
    cases e : H n with
    | none => exact .inl rfl
    | some o => exact .inr (by simp [e])
  · intro n hn hm
    obtain ⟨h1, h2⟩ := p.old n hn hm
    refine ⟨rfl, ?_⟩
    cases e : H n with
    | some o => simp [e]
    | none =>
      rw [e] at h1
      simp [e, un, h1, h2]
  · intro n o hn
    have h1 := hMn n o hn
    have h2 : H' n = none := (p.dis n).resolve_right (by rw [hn]; simp)
    simp [h1, un, h2, hn]
  · intro n o h1 h2
    simp [h1, un, h2]

/-! ### A matrix of the reference, while its rows are made -/
structure HalfM (O : PH) (b0 h w : Nat) (bs : List Nat) (m : Mx) : Prop where
  rows : RowsO O bs m
  nb : b0 ∉ bs
  list : O b0 = some (.cells ⟨bs.map (fun b => rowV b w) ++ List.replicate (h - bs.length) (.slice none 0 0)⟩ 43 (0, 0))
  wid : ∀ (i : Nat) r, m[i]? = some r → r.length = w
theorem HalfM.start (b0 h w : Nat) (O : PH) : HalfM (ins O b0 (.cells ⟨(List.replicate h [Value.slice none 0 0]).flatten⟩ 43 (0, 0))) b0 h w [] [] := by
  refine ⟨⟨rfl, List.nodup_nil, by simp⟩, by simp, ?_, by simp⟩
  rw [ins_same]
  simp
theorem HalfM.ne {O : PH} {b0 h w : Nat} {bs : List Nat} {m : Mx} (g : HalfM O b0 h w bs m) {b : Nat} (hb : O b = none) : b0 ≠ b := fun e => by
  subst e
  rw [g.list] at hb
  cases hb
/-- A new row. -/
theorem HalfM.row {O : PH} {b0 h w : Nat} {bs : List Nat} {m : Mx} (g : HalfM O b0 h w bs m) {i : Nat} (hi : i = bs.length) (hl : i < h) {b : Nat} (hb : O b = none) :
    ∃ cs, ins O b (.cells ⟨(List.replicate w [.int .i64 0, .int .i64 0, .int .i64 0, .int .i64 0, .int .i64 0]).flatten⟩ 36 (0, 0)) b0 = some (.cells ⟨cs⟩ 43 (0, 0)) ∧ 0 + i * 1 + 1 ≤ cs.length ∧
      HalfM (ins (ins O b (.cells ⟨(List.replicate w [.int .i64 0, .int .i64 0, .int .i64 0, .int .i64 0, .int .i64 0]).flatten⟩ 36 (0, 0))) b0 (.cells ⟨cs.take (0 + i * 1) ++ [rowV b w] ++ cs.drop (0 + i * 1 + 1)⟩ 43 (0, 0))) b0 h w (bs ++ [b]) (m ++ [zeros w]) := by
  have hne := g.ne hb
  have hcz : (List.replicate w [.int .i64 0, .int .i64 0, .int .i64 0, .int .i64 0, .int .i64 0]).flatten = cellsN (zeros w) := by
    unfold cellsN zeros
    rw [List.map_replicate]
    rfl
  rw [hcz]
  refine ⟨_, (ins_ne _ _ hne).trans g.list, by simp; omega, ⟨?_, ?_, ?_, ?_⟩⟩
  · refine (g.rows.snoc hb).other ?_
    have := g.nb
    simp [this, hne]
  · have := g.nb
    simp [this, hne]
  · rw [ins_same]
    have := set_at (bs.map fun b => rowV b w) (.slice none 0 0) (rowV b w) (i := i) (h := h) (by simpa using hi.symm) hl
    rw [hi] at this ⊢
    rw [this]
    simp
  · intro j r hr
    rcases Nat.lt_trichotomy j m.length with hj | hj | hj
    · rw [List.getElem?_append_left hj] at hr
      exact g.wid j r hr
    · subst hj
      rw [List.getElem?_concat_length] at hr
      cases hr
      simp [zeros]
    · rw [List.getElem?_eq_none (by simp; omega)] at hr
      cases hr
/-- What may be read of it. -/
theorem HalfM.at {O : PH} {b0 h w : Nat} {bs : List Nat} {m : Mx} (g : HalfM O b0 h w bs m) {i : Nat} (hi : i < m.length) (H : PH) :
    ∃ b, bs[i]? = some b ∧ b ≠ b0 ∧ m[i].length = w ∧ O b = some (.cells ⟨cellsN m[i]⟩ 36 (0, 0)) ∧ Rd H O ⟨b0, 0 + i * 1, none⟩ 1 [.slice (some ⟨b, 0, none⟩) w w] := by
  have hib : i < bs.length := by rw [g.rows.len]; exact hi
  refine ⟨bs[i], List.getElem?_eq_getElem hib, fun e => g.nb (by rw [← e]; exact List.getElem_mem hib), g.wid _ _ (List.getElem?_eq_getElem hi), g.rows.cells _ _ _ (List.getElem?_eq_getElem hib) (List.getElem?_eq_getElem hi), rfl, rfl, _, _, _, .inr g.list, ?_⟩
  dsimp only
  rw [Nat.zero_add, Nat.mul_one, List.drop_append_of_le_length (by simpa using Nat.le_of_lt hib), List.drop_eq_getElem_cons (by simpa using hib)]
  simp [rowV]
theorem cellsN_setA : ∀ (r : List (P4 × Int)) (k : Nat) (a : Int) (hk : k < r.length), (cellsN r).take (0 + k * 5 + 0) ++ [.int .i64 a] ++ (cellsN r).drop (0 + k * 5 + 0 + 1) = cellsN (r.set k ((⟨a, r[k].1.b, r[k].1.c, r[k].1.d⟩ : P4), r[k].2))
  | y :: r, 0, a, _ => by
    simp only [cellsN, List.set_cons_zero, List.map_cons, List.flatten_cons]
    rfl
  | y :: r, k + 1, a, h => by
    have ih := cellsN_setA r k a (by simpa using h)
    simp only [cellsN, List.set_cons_succ, List.map_cons, List.flatten_cons, List.getElem_cons_succ] at ih ⊢
    rw [← ih]
    have e : 0 + (k + 1) * 5 + 0 = (0 + k * 5 + 0) + 5 := by omega
    have e2 : 0 + (k + 1) * 5 + 0 + 1 = (0 + k * 5 + 0 + 1) + 5 := by omega
    rw [e2, e]
    simp [cellsOf, List.take_succ_cons]
theorem HalfM.upd {O : PH} {b0 h w : Nat} {bs : List Nat} {m : Mx} (g : HalfM O b0 h w bs m) {i k b : Nat} (x : P4 × Int) (hb : bs[i]? = some b) : HalfM (ins O b (.cells ⟨cellsN ((m.getD i []).set k x)⟩ 36 (0, 0))) b0 h w bs (setM m i k x) := by
  have hne : b0 ≠ b := fun e => g.nb (by rw [e]; exact List.mem_of_getElem? hb)
  have hml : m.length = m.length := rfl
  refine ⟨g.rows.set x hb, g.nb, (ins_ne _ _ hne).trans g.list, fun j r hr => ?_⟩
  exact (setM_shape (h := m.length) rfl g.wid i k x).2 j r hr
/-- All rows are made. -/
theorem HalfM.own {O : PH} {b0 h w : Nat} {bs : List Nat} {m : Mx} (g : HalfM O b0 h w bs m) (hl : m.length = h) : OwnM O (.slice (some ⟨b0, 0, none⟩) h h) h w m := by
  refine ⟨hl, g.wid, bs, b0, g.rows, g.nb, rfl, ?_⟩
  have := g.list
  rw [g.rows.len, hl, Nat.sub_self, List.replicate_zero, List.append_nil] at this
  exact this
end Go.Proofs.YtmhnalikebkhjaaGreat


namespace Go.Proofs.YtmhnalikebkhjaaGreat
open Go.Proofs.YtmhnalikebkhjaaGreat.X Go.Proofs.YtmhnalikebkhjaaGreat.X.PH
set_option maxRecDepth 100000

/-- Rows with one number each. -/
def diagR (x : Nat → P4 × Int) (w i : Nat) : Mx := (List.range i).map fun p => (zeros w).set p (x p)
theorem diagR_succ (x : Nat → P4 × Int) (w i : Nat) : diagR x w (i + 1) = diagR x w i ++ [(zeros w).set i (x i)] := by
  unfold diagR
  rw [List.range_succ, List.map_append]
  rfl
theorem diagR_len (x : Nat → P4 × Int) (w i : Nat) : (diagR x w i).length = i := by simp [diagR]
theorem setM_last (m : Mx) (r : List (P4 × Int)) {i : Nat} (hi : i = m.length) (k : Nat) (x : P4 × Int) : setM (m ++ [r]) i k x = m ++ [r.set k x] := by
  subst hi
  unfold setM
  rw [List.getD_eq_getElem?_getD, List.getElem?_concat_length, Option.getD_some]
  simp
theorem getElem_last {m : Mx} {r : List (P4 × Int)} {i : Nat} (hi : i = m.length) (h : i < (m ++ [r]).length) : (m ++ [r])[i] = r := by
  subst hi
  simp
theorem HalfM.setA {O : PH} {b0 h w : Nat} {bs : List Nat} {m : Mx} (g : HalfM O b0 h w bs m) {i k b : Nat} (a : Int) (hb : bs[i]? = some b) (hi : i < m.length) (hk : k < m[i].length) :
    HalfM (ins O b (.cells ⟨(cellsN m[i]).take (0 + k * 5 + 0) ++ [.int .i64 a] ++ (cellsN m[i]).drop (0 + k * 5 + 0 + 1)⟩ 36 (0, 0))) b0 h w bs (setM m i k ((⟨a, m[i][k].1.b, m[i][k].1.c, m[i][k].1.d⟩ : P4), m[i][k].2)) := by
  have h1 := g.upd (i := i) (k := k) ((⟨a, m[i][k].1.b, m[i][k].1.c, m[i][k].1.d⟩ : P4), m[i][k].2) hb
  rw [show m.getD i [] = m[i] by simp [List.getD_eq_getElem?_getD, hi]] at h1
  rw [cellsN_setA m[i] k a hk]
  exact h1
theorem HalfM.setN {O : PH} {b0 h w : Nat} {bs : List Nat} {m : Mx} (g : HalfM O b0 h w bs m) {i k b : Nat} (x : P4 × Int) (hb : bs[i]? = some b) (hi : i < m.length) (hk : k < m[i].length) :
    HalfM (ins O b (.cells ⟨(cellsN m[i]).take (0 + k * 5) ++ cellsOf x ++ (cellsN m[i]).drop (0 + k * 5 + 5)⟩ 36 (0, 0))) b0 h w bs (setM m i k x) := by
  have h1 := g.upd (i := i) (k := k) x hb
  rw [show m.getD i [] = m[i] by simp [List.getD_eq_getElem?_getD, hi]] at h1
  rw [cellsN_set m[i] k x hk]
  exact h1
/-- The identity, of the reference. -/
def IdMR (n : Int) : Mx × Int := if n < 0 ∨ n > 6 then ([], 3) else (diagR (fun _ => oneN) (2 ^ n.toNat) (2 ^ n.toNat), 0)
theorem c17o (n : Int) (H : PH) : Cl Tryz.prog 55 [.int .i64 n] H emp fun r _ M' => ∃ u, r = .tuple #[u, .int .i64 (IdMR n).2] ∧ OwnQ M' u (IdMR n).1 := by
  refine Cl_of (pol := polL) Γok Tryz.func55 (by kernel_rfl) rfl ?_
  conv => whnf
  unfold IdMR
  refine if_intro (fun h => ?_) (fun h => ?_)
  · have h := of_decide_eq_true h
    conv => whnf
    rw [if_pos (.inl h)]
    exact ⟨_, rfl, .inl ⟨rfl, rfl⟩⟩
  have h1 := of_decide_eq_false h
  conv => whnf
  refine if_intro (fun h => ?_) (fun h => ?_)
  · have h := of_decide_eq_true h
    conv => whnf
    rw [if_pos (.inr h)]
    exact ⟨_, rfl, .inl ⟨rfl, rfl⟩⟩
  have h2 := of_decide_eq_false h
  rw [if_neg (by omega)]
  obtain ⟨n, rfl⟩ := nat_of (a := n) (by omega)
  rw [Int.toNat_natCast]
  have p2 : 2 ^ n ≤ 64 := by
    have : 2 ^ n ≤ 2 ^ 6 := Nat.pow_le_pow_right (by decide) (by omega)
    omega
  conv => whnf
  rw [shl1 (by omega)]
  obtain ⟨s, hs⟩ : ∃ s, s = 2 ^ n := ⟨_, rfl⟩
  rw [← hs] at p2 ⊢
  refine dec_intro (Int.le_refl _) ?_
  conv => whnf
  refine dec_intro (by omega) ?_
  conv => whnf
  refine dec_intro (by omega) ?_
  conv => whnf
  intro b0 hb0 _
  conv => whnf
  refine W_loop (pol := polL) Γok (Nat × List Nat × PH) (fun i => i.1 ≤ s ∧ HalfM i.2.2 b0 s s i.2.1 (diagR (fun _ => oneN) s i.1)) (fun i => s - i.1) (fun i => [(6, .v (.int .i64 i.1))]) (fun _ => []) (fun _ => H) (fun i => i.2.2) ⟨(0, [], _), ⟨by simp, HalfM.start b0 s s emp⟩, rfl, rfl, ?_⟩ ?_
  · conv => whnf
    repeat (refine ⟨rfl, ?_⟩; conv => whnf)
    exact trivial
  · rintro ⟨i, bs, O'⟩ ⟨h1, g⟩
    dsimp only at h1 g
    conv => whnf
    refine if_intro (fun hc => ?_) (fun hc => ?_)
    · have hi : i < s := by simpa using hc
      have hbl : i = bs.length := by rw [g.rows.len, diagR_len]
      conv => whnf
      refine dec_intro (Int.le_refl _) ?_
      conv => whnf
      refine dec_intro (by omega) ?_
      conv => whnf
      refine dec_intro (by omega) ?_
      conv => whnf
      intro b hb hO
      conv => whnf
      refine dec_intro (by omega) ?_
      conv => whnf
      obtain ⟨cs, q1, q2, g2⟩ := g.row hbl hi hO
      refine ⟨cs, _, q1, q2, ?_⟩
      conv => whnf
      have hml : i = (diagR (fun _ => oneN) s i).length := (diagR_len _ _ _).symm
      have him : i < (diagR (fun _ => oneN) s i ++ [zeros s]).length := by rw [List.length_append, diagR_len]; simp
      obtain ⟨b', hb', hne, hl, hOb, hrd⟩ := g2.at him H
      have hzl : (zeros s).length = s := by simp [zeros]
      have hk : i < ((diagR (fun _ => oneN) s i ++ [zeros s])[i]).length := by rw [getElem_last hml, hzl]; exact hi
      have g3 := g2.setA 1 hb' him hk
      refine dec_intro (by omega) ?_
      conv => whnf
      refine ⟨[.slice (some ⟨b', 0, none⟩) s s], hrd, ?_⟩
      conv => whnf
      refine dec_intro (by omega) ?_
      conv => whnf
      refine ⟨_, _, hOb, ?_, ?_⟩
      · show _ ≤ (cellsN _).length
        rw [cellsN_length, hl]
        simp only [Int.toNat_natCast, List.length_cons, List.length_nil]
        omega
      conv => whnf
      have key : ∀ r, r = zeros s → ∀ hk : i < r.length, (((⟨1, r[i].1.b, r[i].1.c, r[i].1.d⟩ : P4), r[i].2) : P4 × Int) = oneN := by
        rintro r rfl hk
        simp [zeros, oneN, P4.zero]
      rw [key _ (getElem_last hml him) hk, setM_last _ _ hml, ← diagR_succ (fun _ => oneN)] at g3
      refine ⟨(i + 1, bs ++ [b], _), ⟨hi, g3⟩, by dsimp only; omega, ?_⟩
      refine ⟨rfl, rfl, ?_⟩
      conv => whnf
      repeat (refine ⟨rfl, ?_⟩; conv => whnf)
      refine ⟨by show En.v (.int .i64 (IntKind.i64.wrap (i + 1))) = _; rw [wrap_id (by omega) (by omega)]; rfl, ?_⟩
      conv => whnf
      repeat (refine ⟨rfl, ?_⟩; conv => whnf)
      exact trivial
    · have hi : i = s := by
        have h := of_decide_eq_false hc
        omega
      subst hi
      conv => whnf
      exact ⟨_, rfl, .inr ⟨i, i, by omega, by omega, g.own (diagR_len _ _ _)⟩⟩
end Go.Proofs.YtmhnalikebkhjaaGreat


namespace Go.Proofs.YtmhnalikebkhjaaGreat
open Go.Proofs.YtmhnalikebkhjaaGreat.X Go.Proofs.YtmhnalikebkhjaaGreat.X.PH
set_option maxRecDepth 100000

theorem flat_oneI : ∀ l : List Int, (l.map fun x => [Value.int .i64 x]).flatten = l.map fun x => .int .i64 x
  | [] => rfl
  | x :: l => by
    rw [List.map_cons, List.flatten_cons, flat_oneI l]
    rfl
/-- Integers of one's own. -/
abbrev IntsO (O : PH) (v : Value) (l : List Int) : Prop := OwnS O 1 3 v (l.map fun x => [.int .i64 x])
theorem IntsO.pub {H M : PH} (hd : Dis H M) {v : Value} {l : List Int} (h : IntsO M v l) : ∃ H' M', Repart H M H' M' ∧ IntsH H' v l := by
  obtain ⟨h1, h⟩ := h
  rcases h with ⟨rfl, h⟩ | ⟨b, cap, spare, rfl, hO, hcap, hsp⟩
  · have : l = [] := by simpa using h
    subst this
    exact ⟨H, M, .refl hd, none, 0, rfl, .inl ⟨rfl, rfl⟩⟩
  · refine ⟨_, _, .one hd hO, some ⟨b, 0, none⟩, cap, by simp, .inr ⟨b, 0, _, _, _, rfl, ins_same _ _ _, ?_⟩⟩
    rw [flat_oneI]
    simp
theorem c16 (l : List Int) (hlen : l.length ≤ 100000) (H : PH) (v : Value) (hv : IntsH H v l) : Cl Tryz.prog 54 [v] H emp fun r _ M' => IntsO M' r l := by
  obtain ⟨base, cap, rfl, hv'⟩ := id hv
  refine Cl_of (pol := fun _ => .own) Γok Tryz.func54 (by kernel_rfl) rfl ?_
  conv => whnf
  refine if_intro (fun h => ?_) (fun h => ?_)
  · conv => whnf
    rcases hv' with ⟨h', _⟩ | ⟨_, _, _, _, _, h', _⟩
    · have : l = [] := by simpa using h'
      subst this
      exact ⟨by simp, .inl ⟨rfl, rfl⟩⟩
    · rw [h'] at h; cases h
  · conv => whnf
    intro b hb hO
    conv => whnf
    have hfl := flat_oneI l
    refine append_many (xs := []) (ys := l.map fun x => [.int .i64 x]) ⟨by simp, .inr ⟨b, 0, [], rfl, by rw [ins_same]; rfl, Nat.le_refl _, by simp⟩⟩ rfl (fun y hy => ?_) ?_ ⟨base, cap, by simp, fun hb => ?_, fun a ha hpos => ?_⟩ ?_ fun v O2 hO2 hfr => ?_
    · obtain ⟨x, _, rfl⟩ := List.mem_map.1 hy
      rfl
    · rw [hfl]
      intro v hv
      obtain ⟨x, _, rfl⟩ := List.mem_map.1 hv
      rfl
    · rcases hv' with ⟨h', _⟩ | ⟨_, _, _, _, _, h', _⟩
      · have : l = [] := by simpa using h'
        rw [this]; rfl
      · rw [hb] at h'; cases h'
    · rcases hv' with ⟨h', _⟩ | ⟨b1, off1, c, t, fr, h1, h2, h3⟩
      · simp at hpos; omega
      · rw [ha] at h1; cases h1
        refine ⟨rfl, by rw [hfl]; simp, c, t, fr, .inl h2, ?_⟩
        rw [hfl]
        simpa using h3
    · simp
      omega
    conv => whnf
    exact hO2
theorem c16' (l : List Int) (hlen : l.length ≤ 100000) (H : PH) (v : Value) (hv : IntsH H v l) : Cl Tryz.prog 54 [v] H emp fun r H' _ => IntsH H' r l :=
  (c16 l hlen H v hv).repart fun _ _ _ _ hd h => by
    obtain ⟨H', M', h1, h2⟩ := IntsO.pub hd h
    exact ⟨H', M', h1, h2⟩
theorem IntsH.at {H : PH} {base : Option Addr} {n cap : Nat} {l : List Int} (h : IntsH H (.slice base n cap) l) {i : Nat} (hi : i < l.length) :
    ∃ b off, base = some ⟨b, off, none⟩ ∧ ∀ H' O, Sub H H' → Rd H' O ⟨b, off + i * 1, none⟩ 1 [.int .i64 l[i]] := by
  obtain ⟨b, off, hb, hrd⟩ := IntsH.rd h hi
  exact ⟨b, off, hb, fun _ _ hs => Rd_up (hrd emp) hs⟩
theorem c25 (l k : List Int) (hlen : l.length < 9223372036854775808) (H : PH) (u v : Value) (hu : IntsH H u l) (hv : IntsH H v k) : Cl Tryz.prog 59 [u, v] H emp fun r _ _ => r = .bool (decide (l = k)) := by
  obtain ⟨base, cap, rfl, _⟩ := id hu
  obtain ⟨base', cap', rfl, _⟩ := id hv
  refine Cl_of (pol := polL) Γok Tryz.func59 (by kernel_rfl) rfl ?_
  conv => whnf
  refine if_intro (fun h => ?_) (fun h => ?_)
  · conv => whnf
    rw [decide_eq_false (fun e => by rw [e] at h; simp at h)]
  have hl : l.length = k.length := by
    have : (l.length : Int) = k.length := by simpa using h
    omega
  conv => whnf
  refine W_loop (pol := polL) Γok (Nat × PH) (fun i => i.1 ≤ l.length ∧ Sub H i.2 ∧ l.take i.1 = k.take i.1) (fun i => l.length - i.1) (fun i => [(13, .v (.int .i64 i.1))]) (fun _ => []) (fun i => i.2) (fun _ => emp) ⟨(0, H), ⟨by simp, Sub.refl _, by simp⟩, rfl, rfl, ?_⟩ ?_
  · conv => whnf
    repeat (refine ⟨rfl, ?_⟩; conv => whnf)
    exact trivial
  · rintro ⟨i, H'⟩ ⟨h1, h2, h3⟩
    dsimp only at h1 h2 h3
    conv => whnf
    refine if_intro (fun hc => ?_) (fun hc => ?_)
    · have hi : i < l.length := by simpa using hc
      have hk : i < k.length := by omega
      obtain ⟨b, off, rfl, hx⟩ := IntsH.at hu hi
      obtain ⟨b', off', rfl, hy⟩ := IntsH.at hv hk
      conv => whnf
      refine W_draw (pol := polL) Γok mixes [(0, .pendO), (1, .pendO), (2, .pendO), (3, .pendO), (4, .pendO), (5, .pendO), (6, .pendO), (7, .pendO), (8, .pendO)] 26 (by kernel_rfl) rfl ?_
      conv => whnf
      refine dec_intro (by omega) ?_
      conv => whnf
      refine ⟨_, hx _ _ h2, ?_⟩
      conv => whnf
      refine dec_intro (by omega) ?_
      conv => whnf
      refine ⟨_, hy _ _ h2, ?_⟩
      conv => whnf
      refine if_intro (fun hq => ?_) (fun hq => ?_)
      · conv => whnf
        rw [decide_eq_false (fun e => by subst e; simp at hq)]
      · have hq : l[i] = k[i] := by simpa using hq
        conv => whnf
        refine ⟨(i + 1, H'), ⟨hi, h2, ?_⟩, by dsimp only; omega, ?_⟩
        · dsimp only
          rw [List.take_succ_eq_append_getElem hi, List.take_succ_eq_append_getElem hk, h3, hq]
        conv => whnf
        refine ⟨rfl, rfl, ?_⟩
        conv => whnf
        repeat (refine ⟨rfl, ?_⟩; conv => whnf)
        refine ⟨by show En.v (.int .i64 (IntKind.i64.wrap (i + 1))) = _; rw [wrap_id (by omega) (by omega)]; rfl, ?_⟩
        conv => whnf
        repeat (refine ⟨rfl, ?_⟩; conv => whnf)
        exact trivial
    · have hi : l.length ≤ i := by simpa using hc
      conv => whnf
      rw [List.take_of_length_le hi, List.take_of_length_le (by omega)] at h3
      rw [decide_eq_true h3]
/-- The errors of some wires, of the reference. -/
def placesR (ws : List Int) (n : Int) : Int := if ws.all (inW n) = false then 1 else if twiceF ws then 5 else 0
theorem c70 (ws : List Int) (n : Int) (hlen : ws.length < 1000000) (H : PH) (v : Value) (hv : IntsH H v ws) : Cl Tryz.prog 115 [v, .int .i64 n] H emp fun r _ _ => r = .int .i64 (placesR ws n) := by
  obtain ⟨base, cap, rfl, _⟩ := id hv
  refine Cl_of (pol := polL) Γok Tryz.func115 (by kernel_rfl) rfl ?_
  conv => whnf
  refine W_loopX (pol := polL) Γok (Nat × PH) (fun i => i.1 ≤ ws.length ∧ Sub H i.2 ∧ ∀ x ∈ ws.take i.1, inW n x = true) (fun i => ws.length - i.1) (fun e i => e = .exit 0 ∧ Sub H i.2 ∧ ws.all (inW n) = true) (fun i => [(5, .v (.int .i64 i.1))]) (fun _ => []) (fun i => i.2) (fun _ => emp) ⟨(0, H), ⟨by simp, Sub.refl _, by simp⟩, rfl, rfl, ?_⟩ ?_ ?_
  · conv => whnf
    repeat (refine ⟨rfl, ?_⟩; conv => whnf)
    exact trivial
  · rintro ⟨i, H'⟩ ⟨h1, h2, h3⟩
    dsimp only at h1 h2 h3
    conv => whnf
    refine if_intro (fun hc => ?_) (fun hc => ?_)
    · have hi : i < ws.length := by simpa using hc
      obtain ⟨b, off, rfl, hx⟩ := IntsH.at hv hi
      have bad : inW n ws[i] = false → placesR ws n = 1 := fun h => by
        unfold placesR
        rw [if_pos]
        rw [List.all_eq_false]
        exact ⟨_, List.getElem_mem hi, by rw [h]; simp⟩
      conv => whnf
      refine dec_intro (by omega) ?_
      conv => whnf
      refine ⟨_, hx _ _ h2, ?_⟩
      conv => whnf
      refine if_intro (fun hq => ?_) (fun hq => ?_)
      · have hq := of_decide_eq_true hq
        conv => whnf
        refine .inl ?_
        conv => whnf
        rw [bad (by unfold inW; simp; omega)]
      have hq := of_decide_eq_false hq
      conv => whnf
      refine dec_intro (by omega) ?_
      conv => whnf
      refine ⟨_, hx _ _ h2, ?_⟩
      conv => whnf
      refine if_intro (fun hq2 => ?_) (fun hq2 => ?_)
      · have hq2 := of_decide_eq_true hq2
        conv => whnf
        refine .inl ?_
        conv => whnf
        rw [bad (by unfold inW; simp; omega)]
      have hq2 := of_decide_eq_false hq2
      conv => whnf
      refine ⟨(i + 1, H'), ⟨hi, h2, ?_⟩, by dsimp only; omega, ?_⟩
      · dsimp only
        rw [List.take_succ_eq_append_getElem hi]
        intro x hx
        rcases List.mem_append.1 hx with hx | hx
        · exact h3 x hx
        · simp at hx
          subst hx
          unfold inW
          simp
          omega
      conv => whnf
      refine ⟨rfl, rfl, ?_⟩
      conv => whnf
      repeat (refine ⟨rfl, ?_⟩; conv => whnf)
      refine ⟨by show En.v (.int .i64 (IntKind.i64.wrap (i + 1))) = _; rw [wrap_id (by omega) (by omega)]; rfl, ?_⟩
      conv => whnf
      repeat (refine ⟨rfl, ?_⟩; conv => whnf)
      exact trivial
    · have hi : ws.length ≤ i := by simpa using hc
      conv => whnf
      rw [List.take_of_length_le hi] at h3
      refine .inr ⟨(i, H'), ⟨rfl, h2, List.all_eq_true.2 h3⟩, rfl, rfl, ?_⟩
      conv => whnf
      repeat (refine ⟨rfl, ?_⟩; conv => whnf)
      exact trivial
  rintro e ⟨i, H1⟩ ⟨rfl, s1, hall⟩
  dsimp only at s1
  unfold placesR
  rw [if_neg (by rw [hall]; simp)]
  conv => whnf
  refine W_loop (pol := polL) Γok (Nat × PH) (fun i => i.1 ≤ ws.length ∧ Sub H1 i.2 ∧ ∀ q, q < i.1 → (ws.take q).contains (ws.getD q 0) = false) (fun i => ws.length - i.1) (fun i => [(6, .v (.int .i64 i.1))]) (fun _ => []) (fun i => i.2) (fun _ => emp) ⟨(0, H1), ⟨by simp, Sub.refl _, by simp⟩, rfl, rfl, ?_⟩ ?_
  · conv => whnf
    repeat (refine ⟨rfl, ?_⟩; conv => whnf)
    exact trivial
  · rintro ⟨i, H'⟩ ⟨h1, h2, h3⟩
    dsimp only at h1 h2 h3
    conv => whnf
    refine if_intro (fun hc => ?_) (fun hc => ?_)
    · have hi : i < ws.length := by simpa using hc
      have hgi : ws.getD i 0 = ws[i] := by simp [List.getD_eq_getElem?_getD, hi]
      conv => whnf
      refine W_loopX (pol := polL) Γok (Nat × PH) (fun k => k.1 ≤ i ∧ Sub H' k.2 ∧ ∀ q (hq : q < ws.length), q < k.1 → ws[i] ≠ ws[q]) (fun k => i - k.1) (fun e k => e = .exit 4 ∧ Sub H' k.2 ∧ (ws.take i).contains (ws.getD i 0) = false) (fun k => [(7, .v (.int .i64 k.1))]) (fun _ => []) (fun k => k.2) (fun _ => emp) ⟨(0, H'), ⟨by simp, Sub.refl _, by simp⟩, rfl, rfl, ?_⟩ ?_ ?_
      · conv => whnf
        repeat (refine ⟨rfl, ?_⟩; conv => whnf)
        exact trivial
      · rintro ⟨k, H2⟩ ⟨k1, k2, k3⟩
        dsimp only at k1 k2 k3
        conv => whnf
        refine if_intro (fun hc => ?_) (fun hc => ?_)
        · have hk : k < i := by
            have := of_decide_eq_true hc
            omega
          obtain ⟨b, off, rfl, hx⟩ := IntsH.at hv hi
          obtain ⟨b', off', hbe, hy⟩ := IntsH.at hv (show k < ws.length by omega)
          cases hbe
          have s2 := s1.trans (h2.trans k2)
          conv => whnf
          refine W_draw (pol := polL) Γok mixes [(0, .pendO), (1, .pendO), (2, .pendO), (3, .pendO), (4, .pendO), (5, .pendO), (6, .pendO), (7, .pendO), (8, .pendO)] 47 (by kernel_rfl) rfl ?_
          conv => whnf
          refine dec_intro (by omega) ?_
          conv => whnf
          refine ⟨_, hx _ _ s2, ?_⟩
          conv => whnf
          refine dec_intro (by omega) ?_
          conv => whnf
          refine ⟨_, hy _ _ s2, ?_⟩
          conv => whnf
          refine if_intro (fun hq => ?_) (fun hq => ?_)
          · have hq : ws[i] = ws[k] := by simpa using hq
            conv => whnf
            refine .inl ?_
            conv => whnf
            rw [if_pos]
            unfold twiceF
            rw [List.any_eq_true]
            refine ⟨i, List.mem_range.2 hi, ?_⟩
            rw [hgi, hq]
            rw [List.contains_iff_mem]
            exact List.mem_take_iff_getElem.2 ⟨k, by omega, rfl⟩
          · have hq : ws[i] ≠ ws[k] := by simpa using hq
            conv => whnf
            refine ⟨(k + 1, H2), ⟨hk, k2, fun q hq' hlt => ?_⟩, by dsimp only; omega, ?_⟩
            · dsimp only at hlt
              rcases Nat.lt_or_ge q k with h | h
              · exact k3 q hq' h
              · have : q = k := by omega
                subst this
                exact hq
            conv => whnf
            refine ⟨rfl, rfl, ?_⟩
            conv => whnf
            repeat (refine ⟨rfl, ?_⟩; conv => whnf)
            refine ⟨by show En.v (.int .i64 (IntKind.i64.wrap (k + 1))) = _; rw [wrap_id (by omega) (by omega)]; rfl, ?_⟩
            conv => whnf
            repeat (refine ⟨rfl, ?_⟩; conv => whnf)
            exact trivial
        · have hk : i ≤ k := by
            have := of_decide_eq_false hc
            omega
          conv => whnf
          refine .inr ⟨(k, H2), ⟨rfl, k2, ?_⟩, rfl, rfl, ?_⟩
          · rw [hgi]
            cases hct : (ws.take i).contains ws[i] with
            | false => rfl
            | true =>
              rw [List.contains_iff_mem] at hct
              obtain ⟨q, hq, e⟩ := List.mem_take_iff_getElem.1 hct
              exact absurd e.symm (k3 q (by omega) (by omega))
          conv => whnf
          repeat (refine ⟨rfl, ?_⟩; conv => whnf)
          exact trivial
      · rintro e ⟨k, H2⟩ ⟨rfl, k2, k3⟩
        dsimp only at k2 k3
        conv => whnf
        refine ⟨(i + 1, H2), ⟨hi, h2.trans k2, fun q hq => ?_⟩, by dsimp only; omega, ?_⟩
        · dsimp only at hq
          rcases Nat.lt_or_ge q i with h | h
          · exact h3 q h
          · have : q = i := by omega
            subst this
            exact k3
        conv => whnf
        refine ⟨rfl, rfl, ?_⟩
        conv => whnf
        repeat (refine ⟨rfl, ?_⟩; conv => whnf)
        refine ⟨by show En.v (.int .i64 (IntKind.i64.wrap (i + 1))) = _; rw [wrap_id (by omega) (by omega)]; rfl, ?_⟩
        conv => whnf
        repeat (refine ⟨rfl, ?_⟩; conv => whnf)
        exact trivial
    · have hi : ws.length ≤ i := by simpa using hc
      conv => whnf
      rw [if_neg]
      unfold twiceF
      rw [Bool.not_eq_true, List.any_eq_false]
      intro q hq
      rw [h3 q (by have := List.mem_range.1 hq; omega)]
      simp
end Go.Proofs.YtmhnalikebkhjaaGreat


namespace Go.Proofs.YtmhnalikebkhjaaGreat
open Go.Proofs.YtmhnalikebkhjaaGreat.X Go.Proofs.YtmhnalikebkhjaaGreat.X.PH
set_option maxRecDepth 100000

/-- Numbers that have a first coefficient alone. -/
def LowM (m : Mx) : Prop := ∀ r ∈ m, ∀ x ∈ r, x.1.b = 0 ∧ x.1.c = 0 ∧ x.1.d = 0 ∧ x.2 = 0
theorem LowM.set {m : Mx} (h : LowM m) (i k : Nat) : LowM (setM m i k oneN) := by
  intro r hr x hx
  unfold setM at hr
  rcases List.mem_or_eq_of_mem_set hr with h1 | h1
  · exact h r h1 x hx
  · subst h1
    rcases List.mem_or_eq_of_mem_set hx with h2 | h2
    · rw [List.getD_eq_getElem?_getD] at h2
      cases e : m[i]? with
      | none => rw [e] at h2; simp at h2
      | some r' =>
        rw [e] at h2
        exact h r' (List.mem_of_getElem? e) x h2
    · subst h2
      exact ⟨rfl, rfl, rfl, rfl⟩
theorem movedM_low (t : Nat → Nat) (n : Nat) : ∀ k, LowM (movedM t n k)
  | 0 => fun r hr x hx => by
    have hr := List.eq_of_mem_replicate hr
    subst hr
    have hx := List.eq_of_mem_replicate hx
    subst hx
    exact ⟨rfl, rfl, rfl, rfl⟩
  | k + 1 => (movedM_low t n k).set _ _
theorem movedM_len (t : Nat → Nat) (n : Nat) : ∀ k, (movedM t n k).length = n
  | 0 => by simp [movedM]
  | k + 1 => by
    unfold movedM setM
    rw [List.length_set, movedM_len t n k]
theorem c68 (to : List Int) (t : Nat → Nat) (hn : to.length < 1000) (ht : ∀ k, k < to.length → to[k]? = some (t k : Int) ∧ t k < to.length) (H : PH) (v : Value) (hv : IntsH H v to) :
    Cl Tryz.prog 50 [v] H emp fun r _ M' => OwnQ M' r (movedM t to.length to.length) := by
  obtain ⟨base, cap, rfl, _⟩ := id hv
  refine Cl_of (pol := polL) Γok Tryz.func50 (by kernel_rfl) rfl ?_
  conv => whnf
  refine dec_intro (Int.le_refl _) ?_
  conv => whnf
  refine dec_intro (by omega) ?_
  conv => whnf
  refine dec_intro (by omega) ?_
  conv => whnf
  intro b0 hb0 _
  conv => whnf
  obtain ⟨s, hs⟩ : ∃ s, s = to.length := ⟨_, rfl⟩
  rw [← hs] at hn ht ⊢
  refine W_loop (pol := polL) Γok (Nat × List Nat × PH) (fun i => i.1 ≤ s ∧ HalfM i.2.2 b0 s s i.2.1 (List.replicate i.1 (zeros s))) (fun i => s - i.1) (fun i => [(4, .v (.int .i64 i.1))]) (fun _ => []) (fun _ => H) (fun i => i.2.2) ⟨(0, [], _), ⟨by simp, HalfM.start b0 s s emp⟩, rfl, rfl, ?_⟩ ?_
  · conv => whnf
    repeat (refine ⟨rfl, ?_⟩; conv => whnf)
    exact trivial
  · rintro ⟨i, bs, O'⟩ ⟨h1, g⟩
    dsimp only at h1 g
    conv => whnf
    refine if_intro (fun hc => ?_) (fun hc => ?_)
    · have hi : i < s := by simpa using hc
      have hbl : i = bs.length := by rw [g.rows.len, List.length_replicate]
      conv => whnf
      refine dec_intro (Int.le_refl _) ?_
      conv => whnf
      refine dec_intro (by omega) ?_
      conv => whnf
      refine dec_intro (by omega) ?_
      conv => whnf
      intro b hb hO
      conv => whnf
      refine dec_intro (by omega) ?_
      conv => whnf
      obtain ⟨cs, q1, q2, g2⟩ := g.row hbl hi hO
      rw [← List.replicate_succ'] at g2
      refine ⟨cs, _, q1, q2, ?_⟩
      conv => whnf
      refine ⟨(i + 1, bs ++ [b], _), ⟨hi, g2⟩, by dsimp only; omega, ?_⟩
      refine ⟨rfl, rfl, ?_⟩
      conv => whnf
      repeat (refine ⟨rfl, ?_⟩; conv => whnf)
      refine ⟨by show En.v (.int .i64 (IntKind.i64.wrap (i + 1))) = _; rw [wrap_id (by omega) (by omega)]; rfl, ?_⟩
      conv => whnf
      repeat (refine ⟨rfl, ?_⟩; conv => whnf)
      exact trivial
    have hi : i = s := by
      have h := of_decide_eq_false hc
      omega
    subst hi
    conv => whnf
    refine W_loop (pol := polL) Γok (Nat × PH) (fun k => k.1 ≤ i ∧ HalfM k.2 b0 i i bs (movedM t i k.1)) (fun k => i - k.1) (fun k => [(5, .v (.int .i64 k.1))]) (fun _ => []) (fun _ => H) (fun k => k.2) ⟨(0, O'), ⟨by simp, g⟩, rfl, rfl, ?_⟩ ?_
    · conv => whnf
      repeat (refine ⟨rfl, ?_⟩; conv => whnf)
      exact trivial
    · rintro ⟨k, O2⟩ ⟨k1, gk⟩
      dsimp only at k1 gk
      conv => whnf
      refine if_intro (fun hc => ?_) (fun hc => ?_)
      · have hk : k < i := by simpa using hc
        obtain ⟨b, off, rfl, hx⟩ := IntsH.at hv (show k < to.length by omega)
        obtain ⟨t1, t2⟩ := ht k hk
        have t1' : to[k]'(by omega) = (t k : Int) := by
          rw [List.getElem?_eq_getElem (by omega)] at t1
          exact Option.some.inj t1
        have htl : t k < (movedM t i k).length := by rw [movedM_len]; exact t2
        obtain ⟨b', hb', hne, hl, hOb, hrd⟩ := gk.at htl H
        have hkl : k < (movedM t i k)[t k].length := by rw [hl]; exact hk
        have g3 := gk.setA 1 hb' htl hkl
        obtain ⟨y1, y2, y3, y4⟩ := movedM_low t i k _ (List.getElem_mem htl) _ (List.getElem_mem hkl)
        rw [y1, y2, y3, y4] at g3
        conv => whnf
        refine dec_intro (by omega) ?_
        conv => whnf
        refine ⟨[.int .i64 (t k)], by have := hx H O2 (Sub.refl _); rw [t1'] at this; exact this, ?_⟩
        conv => whnf
        refine dec_intro (by omega) ?_
        conv => whnf
        refine ⟨[.slice (some ⟨b', 0, none⟩) i i], hrd, ?_⟩
        conv => whnf
        refine dec_intro (by omega) ?_
        conv => whnf
        refine ⟨_, _, hOb, ?_, ?_⟩
        · show _ ≤ (cellsN _).length
          rw [cellsN_length, hl]
          simp only [Int.toNat_natCast, List.length_cons, List.length_nil]
          omega
        conv => whnf
        refine ⟨(k + 1, _), ⟨hk, g3⟩, by dsimp only; omega, ?_⟩
        refine ⟨rfl, rfl, ?_⟩
        conv => whnf
        repeat (refine ⟨rfl, ?_⟩; conv => whnf)
        refine ⟨by show En.v (.int .i64 (IntKind.i64.wrap (k + 1))) = _; rw [wrap_id (by omega) (by omega)]; rfl, ?_⟩
        conv => whnf
        repeat (refine ⟨rfl, ?_⟩; conv => whnf)
        exact trivial
      · have hk : k = i := by
          have h := of_decide_eq_false hc
          omega
        subst hk
        conv => whnf
        exact .inr ⟨k, k, by omega, by omega, gk.own (movedM_len _ _ _)⟩
end Go.Proofs.YtmhnalikebkhjaaGreat


namespace Go.Proofs.YtmhnalikebkhjaaGreat
open Go.Proofs.YtmhnalikebkhjaaGreat.X Go.Proofs.YtmhnalikebkhjaaGreat.X.PH
set_option maxRecDepth 100000

/-- One block. -/
def only (O : PH) (b : Nat) : PH := fun n => if n = b then O n else none
theorem only_ne (O : PH) {b n : Nat} (h : n ≠ b) : only O b n = none := by simp [only, h]
theorem only_same (O : PH) (b : Nat) : only O b b = O b := by simp [only]
theorem parts_only (O : PH) (b : Nat) : Parts O (only O b) (del O b) := by
  refine ⟨fun n => ?_, fun n => ?_⟩
  · unfold un only del
    by_cases h : n = b
    · simp [h]
      cases O b <;> rfl
    · simp [h]
  · unfold only del
    by_cases h : n = b
    · exact .inr (by simp [h])
    · exact .inl (by simp [h])
theorem un_only {O : PH} {b b' : Nat} {x o : Obj} (h : b' ≠ b) (hb : O b = some o) : un (only O b) (ins (del O b) b' x) = ins O b' x := by
  funext n
  unfold un
  by_cases e : n = b
  · subst e
    rw [only_same, hb]
    exact ((ins_ne _ _ (Ne.symm h)).trans hb).symm
  · rw [only_ne O e]
    dsimp only
    by_cases e' : n = b'
    · subst e'
      rw [ins_same, ins_same]
    · rw [ins_ne _ _ e', ins_ne _ _ e', del_ne _ e]
theorem noLoc {l : List (Option B)} {q : Nat} {b : B} (h : ∀ x ∈ l, x = none) (hq : l[q]? = some (some b)) : False := by
  have := h _ (List.mem_of_getElem? hq)
  cases this
theorem sub_un (H L : PH) : Sub H (un H L) := fun n o hn => by simp [un, hn]
/-- The row of a matrix half made, where the list is lent. -/
theorem HalfM.lent {O : PH} {b0 h w : Nat} {bs : List Nat} {m : Mx} (g : HalfM O b0 h w bs m) {i : Nat} (hi : i < m.length) {H : PH} (hd : Dis H (only O b0)) :
    ∃ b, bs[i]? = some b ∧ b ≠ b0 ∧ m[i].length = w ∧ O b = some (.cells ⟨cellsN m[i]⟩ 36 (0, 0)) ∧ del O b0 b = some (.cells ⟨cellsN m[i]⟩ 36 (0, 0)) ∧
      ∀ H' R', Sub (un H (only O b0)) H' → Rd H' R' ⟨b0, 0 + i * 1, none⟩ 1 [.slice (some ⟨b, 0, none⟩) w w] := by
  obtain ⟨b, q1, q2, q3, q4, _⟩ := g.at hi H
  have hib : i < bs.length := by rw [g.rows.len]; exact hi
  have hbi : bs[i] = b := by rw [List.getElem?_eq_getElem hib] at q1; exact Option.some.inj q1
  refine ⟨b, q1, q2, q3, q4, (del_ne _ q2).trans q4, fun H' R' hs => ⟨rfl, rfl, _, _, _, .inl (hs _ _ (un_right hd ((only_same O b0).trans g.list))), ?_⟩⟩
  dsimp only
  rw [Nat.zero_add, Nat.mul_one, List.drop_append_of_le_length (by simpa using Nat.le_of_lt hib), List.drop_eq_getElem_cons (by simpa using hib)]
  simp [rowV, hbi]
theorem c69 (ps : List Int) (f : Nat → Nat) (hn : ps.length < 1000) (ht : ∀ k, k < ps.length → ps[k]? = some (f k : Int) ∧ f k < 8) (H : PH) (v : Value) (hv : IntsH H v ps) :
    Cl Tryz.prog 51 [v] H emp fun r _ M' => OwnQ M' r (diagR (fun p => OmegaF (f p)) ps.length ps.length) := by
  obtain ⟨base, cap, rfl, _⟩ := id hv
  refine Cl_of (pol := polL) Γok Tryz.func51 (by kernel_rfl) rfl ?_
  conv => whnf
  refine dec_intro (Int.le_refl _) ?_
  conv => whnf
  refine dec_intro (by omega) ?_
  conv => whnf
  refine dec_intro (by omega) ?_
  conv => whnf
  intro b0 hb0 _
  conv => whnf
  obtain ⟨s, hs⟩ : ∃ s, s = ps.length := ⟨_, rfl⟩
  rw [← hs] at hn ht ⊢
  refine W_loop (pol := polL) Γok (Nat × List Nat × PH × PH) (fun i => i.1 ≤ s ∧ Sub H i.2.2.1 ∧ HalfM i.2.2.2 b0 s s i.2.1 (diagR (fun p => OmegaF (f p)) s i.1)) (fun i => s - i.1) (fun i => [(4, .v (.int .i64 i.1))]) (fun _ => []) (fun i => i.2.2.1) (fun i => i.2.2.2) ⟨(0, [], H, _), ⟨by simp, Sub.refl _, HalfM.start b0 s s emp⟩, rfl, rfl, ?_⟩ ?_
  · conv => whnf
    repeat (refine ⟨rfl, ?_⟩; conv => whnf)
    exact trivial
  · rintro ⟨i, bs, H1, O'⟩ ⟨h1, s1, g⟩
    dsimp only at h1 s1 g
    conv => whnf
    refine if_intro (fun hc => ?_) (fun hc => ?_)
    · have hi : i < s := by simpa using hc
      have hbl : i = bs.length := by rw [g.rows.len, diagR_len]
      obtain ⟨b', off', rfl, hx⟩ := IntsH.at hv (show i < ps.length by omega)
      obtain ⟨t1, t2⟩ := ht i hi
      have t1' : ps[i]'(by omega) = (f i : Int) := by
        rw [List.getElem?_eq_getElem (by omega)] at t1
        exact Option.some.inj t1
      conv => whnf
      refine dec_intro (Int.le_refl _) ?_
      conv => whnf
      refine dec_intro (by omega) ?_
      conv => whnf
      refine dec_intro (by omega) ?_
      conv => whnf
      intro b hb hO
      conv => whnf
      refine dec_intro (by omega) ?_
      conv => whnf
      obtain ⟨cs, q1, q2, g2⟩ := g.row hbl hi hO
      refine ⟨cs, _, q1, q2, ?_⟩
      conv => whnf
      have hml : i = (diagR (fun p => OmegaF (f p)) s i).length := (diagR_len _ _ _).symm
      have him : i < (diagR (fun p => OmegaF (f p)) s i ++ [zeros s]).length := by rw [List.length_append, diagR_len]; simp
      refine W_lend (parts_only _ b0) fun hd => ?_
      obtain ⟨b2, hb2, hne, hl, hOb, hOb', hrd⟩ := g2.lent him hd
      have hk : i < ((diagR (fun p => OmegaF (f p)) s i ++ [zeros s])[i]).length := by rw [hl]; exact hi
      have g3 := g2.setN (OmegaF (f i)) hb2 him hk
      rw [setM_last _ _ hml, ← diagR_succ (fun p => OmegaF (f p))] at g3
      refine W_draw (pol := polL) Γok mixes [(0, .pend), (1, .pend), (2, .pend), (3, .pend), (4, .pend), (5, .pendO), (6, .pendO), (7, .pendO), (8, .pendO), (9, .lock), (10, .pendO), (11, .lock)] 32 (by kernel_rfl) rfl ?_
      conv => whnf
      refine dec_intro (by omega) ?_
      conv => whnf
      refine ⟨_, hrd _ _ (Sub.refl _), ?_⟩
      conv => whnf
      refine dec_intro (by omega) ?_
      conv => whnf
      refine ⟨[.int .i64 (f i)], by rw [← t1']; exact hx _ _ (s1.trans (sub_un _ _)), ?_⟩
      conv => whnf
      refine (c99 (f i) t2 _).val fun H2 hs2 => ?_
      conv => whnf
      refine dec_intro (by omega) ?_
      conv => whnf
      refine ⟨_, _, hOb', ?_, ?_⟩
      · show _ ≤ (cellsN _).length
        rw [cellsN_length, hl]
        simp only [Int.toNat_natCast, List.length_cons, List.length_nil]
        omega
      conv => whnf
      refine ⟨fun n o hn => hs2 n o (un_right hd hn), fun q b3 hq hp => ?_, fun H3 e1 e2 => ?_⟩
      · exact (noLoc (by simp) hq).elim
      conv => whnf
      have s3 : Sub H H3 := fun n o hn => by
        have h1 := s1 n o hn
        have h2 := (hd n).resolve_left (by dsimp only; rw [h1]; simp)
        exact (e1 n h2).trans (hs2 n o (sub_un _ _ n o h1))
      rw [← un_only hne g2.list] at g3
      refine ⟨(i + 1, bs ++ [b], H3, _), ⟨hi, s3, g3⟩, by dsimp only; omega, ?_⟩
      refine ⟨rfl, rfl, ?_⟩
      conv => whnf
      repeat (refine ⟨rfl, ?_⟩; conv => whnf)
      refine ⟨by show En.v (.int .i64 (IntKind.i64.wrap (i + 1))) = _; rw [wrap_id (by omega) (by omega)]; rfl, ?_⟩
      conv => whnf
      repeat (refine ⟨rfl, ?_⟩; conv => whnf)
      exact trivial
    · have hi : i = s := by
        have h := of_decide_eq_false hc
        omega
      subst hi
      conv => whnf
      exact .inr ⟨i, i, by omega, by omega, g.own (diagR_len _ _ _)⟩
end Go.Proofs.YtmhnalikebkhjaaGreat


namespace Go.Proofs.YtmhnalikebkhjaaGreat
open Go.Proofs.YtmhnalikebkhjaaGreat.X Go.Proofs.YtmhnalikebkhjaaGreat.X.PH
set_option maxRecDepth 100000

/-- The values of the first wires, as a number, and what is left: of the reference. -/
def takenF (ws : List Int) (a : Int) : Nat → Int × Int
  | 0 => (0, a)
  | j + 1 => if andI (takenF ws a j).2 (shlI 1 (ws.getD j 0)) ≠ 0 then (IntKind.i64.wrap ((takenF ws a j).1 + shlI 1 j), IntKind.i64.wrap ((takenF ws a j).2 - shlI 1 (ws.getD j 0))) else takenF ws a j
theorem neq_true {x : Int} (h : (!(x == 0)) = true) : x ≠ 0 := by simpa using h
theorem neq_false {x : Int} (h : (!(x == 0)) = false) : x = 0 := by simpa using h
theorem c71 (ws : List Int) (hlen : ws.length < 1000000) (hw : ∀ w ∈ ws, 0 ≤ w) (a : Int) (H : PH) (v : Value) (hv : IntsH H v ws) :
    Cl Tryz.prog 116 [.int .i64 a, v] H emp fun r _ _ => r = .tuple #[.int .i64 (takenF ws a ws.length).1, .int .i64 (takenF ws a ws.length).2] := by
  obtain ⟨base, cap, rfl, _⟩ := id hv
  refine Cl_of (pol := polL) Γok Tryz.func116 (by kernel_rfl) rfl ?_
  conv => whnf
  refine W_loop (pol := polL) Γok (Nat × PH) (fun i => i.1 ≤ ws.length ∧ Sub H i.2) (fun i => ws.length - i.1) (fun i => [(0, .v (.int .i64 (takenF ws a i.1).2)), (6, .v (.int .i64 (takenF ws a i.1).1)), (7, .v (.int .i64 i.1))]) (fun _ => []) (fun i => i.2) (fun _ => emp) ⟨(0, H), ⟨by simp, Sub.refl _⟩, rfl, rfl, ?_⟩ ?_
  · conv => whnf
    repeat (refine ⟨rfl, ?_⟩; conv => whnf)
    exact trivial
  · rintro ⟨i, H'⟩ ⟨h1, h2⟩
    dsimp only at h1 h2
    conv => whnf
    refine if_intro (fun hc => ?_) (fun hc => ?_)
    · have hi : i < ws.length := by simpa using hc
      obtain ⟨b, off, rfl, hx⟩ := IntsH.at hv hi
      have hwi := hw ws[i] (List.getElem_mem hi)
      have hg : ws.getD i 0 = ws[i] := by simp [List.getD_eq_getElem?_getD, hi]
      have st : takenF ws a (i + 1) = if andI (takenF ws a i).2 (shlI 1 ws[i]) ≠ 0 then (IntKind.i64.wrap ((takenF ws a i).1 + shlI 1 i), IntKind.i64.wrap ((takenF ws a i).2 - shlI 1 ws[i])) else takenF ws a i := by rw [← hg]; rfl
      conv => whnf
      refine dec_intro (by omega) ?_
      conv => whnf
      refine ⟨_, hx _ _ h2, ?_⟩
      conv => whnf
      refine dec_intro hwi ?_
      conv => whnf
      refine if_intro (fun hq => ?_) (fun hq => ?_)
      · have hq : andI (takenF ws a i).2 (shlI 1 ws[i]) ≠ 0 := neq_true hq
        rw [if_pos hq] at st
        conv => whnf
        refine dec_intro (by omega) ?_
        conv => whnf
        refine ⟨_, hx _ _ h2, ?_⟩
        conv => whnf
        refine dec_intro hwi ?_
        conv => whnf
        refine ⟨(i + 1, H'), ⟨hi, h2⟩, by dsimp only; omega, ?_⟩
        refine ⟨rfl, rfl, ?_⟩
        conv => whnf
        refine ⟨by dsimp only; rw [st] <;> rfl, ?_⟩
        conv => whnf
        repeat (refine ⟨rfl, ?_⟩; conv => whnf)
        refine ⟨by dsimp only; rw [st] <;> rfl, ?_⟩
        conv => whnf
        refine ⟨by show En.v (.int .i64 (IntKind.i64.wrap (i + 1))) = _; rw [wrap_id (by omega) (by omega)]; rfl, ?_⟩
        conv => whnf
        repeat (refine ⟨rfl, ?_⟩; conv => whnf)
        exact trivial
      · have hq : andI (takenF ws a i).2 (shlI 1 ws[i]) = 0 := neq_false hq
        rw [if_neg (fun h => h hq)] at st
        conv => whnf
        refine ⟨(i + 1, H'), ⟨hi, h2⟩, by dsimp only; omega, ?_⟩
        refine ⟨rfl, rfl, ?_⟩
        conv => whnf
        refine ⟨by dsimp only; rw [st] <;> rfl, ?_⟩
        conv => whnf
        repeat (refine ⟨rfl, ?_⟩; conv => whnf)
        refine ⟨by dsimp only; rw [st] <;> rfl, ?_⟩
        conv => whnf
        refine ⟨by show En.v (.int .i64 (IntKind.i64.wrap (i + 1))) = _; rw [wrap_id (by omega) (by omega)]; rfl, ?_⟩
        conv => whnf
        repeat (refine ⟨rfl, ?_⟩; conv => whnf)
        exact trivial
    · have hi : i = ws.length := by
        have h := of_decide_eq_false hc
        omega
      subst hi
      conv => whnf
end Go.Proofs.YtmhnalikebkhjaaGreat


namespace Go.Proofs.YtmhnalikebkhjaaGreat
open Go.Proofs.YtmhnalikebkhjaaGreat.X Go.Proofs.YtmhnalikebkhjaaGreat.X.PH
set_option maxRecDepth 100000

/-- A bit is cleared. -/
def clB (k w : Nat) : Nat := if k.testBit w then k - 2 ^ w else k
theorem clB_lt : ∀ k, k < 64 → ∀ w, w < 6 → clB k w < 64 := by decide +kernel
theorem clB_bit : ∀ k, k < 64 → ∀ w, w < 6 → ∀ p, p < 6 → p ≠ w → (clB k w).testBit p = k.testBit p := by decide +kernel
theorem clB_comm : ∀ k, k < 64 → ∀ w, w < 6 → ∀ p, p < 6 → clB (clB k w) p = clB (clB k p) w := by decide +kernel
theorem clB_not : ∀ k : Nat, k < 64 → ∀ w : Nat, w < 6 → andNotI (k : Int) (shlI 1 (w : Int)) = (clB k w : Int) := by decide +kernel
theorem bit_shr : ∀ k : Nat, k < 64 → ∀ w : Nat, w < 6 → andI (shrI (k : Int) (w : Int)) 1 = if k.testBit w then 1 else 0 := by decide +kernel
theorem bit_and : ∀ k : Nat, k < 64 → ∀ w : Nat, w < 6 → (andI (k : Int) (shlI 1 (w : Int)) = 0 ↔ k.testBit w = false) := by decide +kernel
theorem sub_bit : ∀ k : Nat, k < 64 → ∀ w : Nat, w < 6 → k.testBit w = true → IntKind.i64.wrap ((k : Int) - shlI 1 (w : Int)) = (clB k w : Int) := by decide +kernel
theorem add_bit : ∀ j : Nat, j < 6 → ∀ v : Nat, v < 2 ^ j → IntKind.i64.wrap ((v : Int) + shlI 1 (j : Int)) = ((v + 2 ^ j : Nat) : Int) := by decide +kernel
theorem or_bit : ∀ j : Nat, j < 6 → ∀ v : Nat, v < 2 ^ j → orI (v : Int) (shlI 1 (j : Int)) = ((v + 2 ^ j : Nat) : Int) := by decide +kernel
theorem or_no : ∀ j : Nat, j < 6 → ∀ v : Nat, v < 2 ^ j → orI (v : Int) (shlI 0 (j : Int)) = (v : Int) := by decide +kernel
/-- The values of the first wires, and what is left. -/
def spl (wn : Nat → Nat) : Nat → Nat → Nat × Nat
  | 0, k => (0, k)
  | j + 1, k => ((spl wn j (clB k (wn j))).1 + (if k.testBit (wn j) then 2 ^ j else 0), (spl wn j (clB k (wn j))).2)
theorem spl_lt (wn : Nat → Nat) (hw : ∀ j, wn j < 6) : ∀ j k, k < 64 → (spl wn j k).1 < 2 ^ j ∧ (spl wn j k).2 < 64
  | 0, k, h => ⟨by simp [spl], h⟩
  | j + 1, k, h => by
    obtain ⟨h1, h2⟩ := spl_lt wn hw j _ (clB_lt k h (wn j) (hw j))
    refine ⟨?_, h2⟩
    simp only [spl, Nat.pow_succ]
    split <;> omega
theorem spl_bit (wn : Nat → Nat) (hw : ∀ j, wn j < 6) {p : Nat} (hp : p < 6) : ∀ j k, k < 64 → (∀ i, i < j → wn i ≠ p) → (spl wn j k).2.testBit p = k.testBit p
  | 0, k, _, _ => rfl
  | j + 1, k, h, hn => by
    have ih := spl_bit wn hw hp j _ (clB_lt k h (wn j) (hw j)) fun i hi => hn i (by omega)
    simp only [spl]
    rw [ih, clB_bit k h _ (hw j) p hp (hn j (by omega)).symm]
theorem spl_cl (wn : Nat → Nat) (hw : ∀ j, wn j < 6) {p : Nat} (hp : p < 6) : ∀ j k, k < 64 → (∀ i, i < j → wn i ≠ p) → spl wn j (clB k p) = ((spl wn j k).1, clB (spl wn j k).2 p)
  | 0, k, _, _ => rfl
  | j + 1, k, h, hn => by
    have ih := spl_cl wn hw hp j _ (clB_lt k h (wn j) (hw j)) fun i hi => hn i (by omega)
    simp only [spl]
    rw [clB_comm k h p hp _ (hw j), ih, clB_bit k h p hp _ (hw j) (hn j (by omega))]
theorem spl_succ (wn : Nat → Nat) (hw : ∀ j, wn j < 6) (j k : Nat) (h : k < 64) (hn : ∀ i, i < j → wn i ≠ wn j) : spl wn (j + 1) k = ((spl wn j k).1 + (if (spl wn j k).2.testBit (wn j) then 2 ^ j else 0), clB (spl wn j k).2 (wn j)) := by
  rw [spl_bit wn hw (hw j) j k h hn]
  show ((spl wn j (clB k (wn j))).1 + (if k.testBit (wn j) then 2 ^ j else 0), (spl wn j (clB k (wn j))).2) = _
  rw [spl_cl wn hw (hw j) j k h hn]
theorem split_spl (ws : List Int) (wn : Nat → Nat) (hw : ∀ j, wn j < 6) : ∀ (j k : Nat), j ≤ 6 → k < 64 → (∀ i, i < j → ws.getD i 0 = wn i) → splitF ws j (k : Int) = (((spl wn j k).1 : Int), ((spl wn j k).2 : Int))
  | 0, k, _, _, _ => rfl
  | j + 1, k, hj, h, he => by
    have ih := split_spl ws wn hw j (clB k (wn j)) (by omega) (clB_lt k h _ (hw j)) fun i hi => he i (by omega)
    obtain ⟨l1, _⟩ := spl_lt wn hw j _ (clB_lt k h _ (hw j))
    simp only [splitF, spl]
    rw [he j (by omega), clB_not k h _ (hw j), ih, bit_shr k h _ (hw j)]
    dsimp only
    congr 1
    cases k.testBit (wn j) with
    | true => exact or_bit j (by omega) _ l1
    | false => exact or_no j (by omega) _ l1
theorem taken_spl (ws : List Int) (wn : Nat → Nat) (hw : ∀ j, wn j < 6) (k : Nat) (h : k < 64) : ∀ j, j ≤ 6 → (∀ i, i < j → ws.getD i 0 = wn i) → (∀ a b, a < b → b < j → wn a ≠ wn b) → takenF ws k j = (((spl wn j k).1 : Int), ((spl wn j k).2 : Int))
  | 0, _, _, _ => rfl
  | j + 1, hj, he, hd => by
    have ih := taken_spl ws wn hw k h j (by omega) (fun i hi => he i (by omega)) fun a b h1 h2 => hd a b h1 (by omega)
    obtain ⟨l1, l2⟩ := spl_lt wn hw j k h
    rw [spl_succ wn hw j k h fun i hi => hd i j hi (by omega)]
    simp only [takenF]
    rw [he j (by omega), ih]
    dsimp only
    cases e : (spl wn j k).2.testBit (wn j) with
    | true =>
      rw [if_pos (fun q => by rw [(bit_and _ l2 _ (hw j)).1 q] at e; cases e), add_bit j (by omega) _ l1, sub_bit _ l2 _ (hw j) e]
      rfl
    | false =>
      rw [if_neg (fun q => q ((bit_and _ l2 _ (hw j)).2 e))]
      simp [clB, e]
/-- For wires that differ, both say the same. -/
theorem taken_split (ws : List Int) (n : Int) (hn : n ≤ 6) (h1 : ws.all (inW n) = true) (h2 : twiceF ws = false) (k : Nat) (hk : k < 64) (hl : ws.length ≤ 6) : takenF ws k ws.length = splitF ws ws.length k := by
  have hin : ∀ x ∈ ws, 0 ≤ x ∧ x < 6 := fun x hx => by
    have := List.all_eq_true.1 h1 x hx
    unfold inW at this
    simp at this
    omega
  have hg : ∀ i, i < ws.length → ∃ x, ws[i]? = some x ∧ ws.getD i 0 = x ∧ 0 ≤ x ∧ x < 6 := fun i hi => by
    have := hin ws[i] (List.getElem_mem hi)
    exact ⟨ws[i], List.getElem?_eq_getElem hi, by simp [List.getD_eq_getElem?_getD, hi], this⟩
  obtain ⟨wn, hwn⟩ : ∃ wn : Nat → Nat, wn = fun j => (ws.getD j 0).toNat := ⟨_, rfl⟩
  have hw : ∀ j, wn j < 6 := fun j => by
    rw [hwn]
    dsimp only
    by_cases hj : j < ws.length
    · obtain ⟨x, _, e, _, _⟩ := hg j hj
      rw [e]; omega
    · simp [List.getD_eq_getElem?_getD, List.getElem?_eq_none (Nat.le_of_not_lt hj)]
  have he : ∀ i, i < ws.length → ws.getD i 0 = (wn i : Int) := fun i hi => by
    obtain ⟨x, _, e, _, _⟩ := hg i hi
    rw [hwn]
    dsimp only
    rw [e]; omega
  have hd : ∀ a b, a < b → b < ws.length → wn a ≠ wn b := fun a b hab hb e => by
    unfold twiceF at h2
    rw [List.any_eq_false] at h2
    have := h2 b (List.mem_range.2 hb)
    apply this
    rw [List.contains_iff_mem, he b hb, ← e, ← he a (by omega)]
    obtain ⟨x, q1, q2, _⟩ := hg a (by omega)
    rw [q2]
    exact List.mem_take_iff_getElem.2 ⟨a, by omega, by rw [List.getElem?_eq_getElem (by omega)] at q1; exact Option.some.inj q1⟩
  rw [taken_spl ws wn hw k hk ws.length hl he hd, split_spl ws wn hw ws.length k hl hk he]
end Go.Proofs.YtmhnalikebkhjaaGreat
