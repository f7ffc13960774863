/- A logic for code of the model, proved sound, and what functions do that the laws on matrices come to; nothing is asked. Part 7. -/
import Derived.Test.YtmhnalikebkhjaaGreatM6
import Derived.Shelf.Spec.SlicesInsertGrow

set_option linter.unusedVariables false
set_option linter.unusedSimpArgs false
set_option linter.unnecessarySimpa false


namespace Go.Proofs.YtmhnalikebkhjaaGreat
open Go.Proofs.YtmhnalikebkhjaaGreat.X Go.Proofs.YtmhnalikebkhjaaGreat.X.PH
set_option maxRecDepth 100000

/-- A row of which the first numbers are computed. -/
def halfR (F : Nat → Nat → (P4 × Int) × Int) (i w b : Nat) : List (P4 × Int) := (List.range w).map fun q => if q < b then (F i q).1 else (P4.zero, 0)
theorem halfR_zero (F : Nat → Nat → (P4 × Int) × Int) (i w : Nat) : halfR F i w 0 = zeros w := by
  apply List.ext_getElem <;> simp [halfR, zeros]
theorem halfR_full (F : Nat → Nat → (P4 × Int) × Int) (i w : Nat) : gridM F (i + 1) w = gridM F i w ++ [halfR F i w w] := by
  unfold gridM
  rw [List.range_succ, List.map_append]
  congr 1
  rw [List.map_cons, List.map_nil]
  congr 1
  unfold halfR
  refine List.map_congr_left fun q hq => ?_
  rw [if_pos (List.mem_range.1 hq)]
theorem halfR_len (F : Nat → Nat → (P4 × Int) × Int) (i w b : Nat) : (halfR F i w b).length = w := by simp [halfR]
theorem halfR_set (F : Nat → Nat → (P4 × Int) × Int) (i w b : Nat) (x : P4 × Int) (hx : (F i b).1 = x) : (halfR F i w b).set b x = halfR F i w (b + 1) := by
  apply List.ext_getElem
  · simp [halfR]
  intro q h1 h2
  rw [List.getElem_set]
  simp only [halfR, List.getElem_map, List.getElem_range]
  split
  · rename_i e
    subst e
    rw [if_pos (by omega), hx]
  · by_cases h : q < b
    · rw [if_pos h, if_pos (by omega)]
    · rw [if_neg h, if_neg (by omega)]
theorem halfR_skip (F : Nat → Nat → (P4 × Int) × Int) (i w b : Nat) (hx : (F i b).1 = (P4.zero, 0)) : halfR F i w (b + 1) = halfR F i w b := by
  apply List.map_congr_left
  intro q hq
  by_cases h : q < b
  · rw [if_pos h, if_pos (by omega)]
  · rw [if_neg h]
    split
    · have : q = b := by omega
      rw [this, hx]
    · rfl
theorem gridM_len (F : Nat → Nat → (P4 × Int) × Int) (h w : Nat) : (gridM F h w).length = h := (gridM_shape F h w).1
/-- A matrix half made, with another row. -/
theorem c19 (m : Mx) (hlm : m.length < 1000000) (ws : List Int) (hws : ws.length < 100000) (n : Int) (H : PH) (u v : Value) (hu : MatH H u m) (hv : IntsH H v ws) :
    Cl Tryz.prog 56 [u, v, .int .i64 n] H emp fun r _ M' => OutO M' r (resM (onErr m ws n) (onAt m ws) (2 ^ n.toNat) (2 ^ n.toNat)) := by
  obtain ⟨base, cap, rfl⟩ := hu.sl
  obtain ⟨wb, wc, rfl, _⟩ := id hv
  refine Cl_of (pol := polL) Γok Tryz.func56 (by kernel_rfl) rfl ?_
  conv => whnf
  refine (c30 m _ _ hu).val fun H1 s1 => ?_
  have bad : ∀ e, onErr m ws n = e → e ≠ 0 → OutO emp (.tuple #[.slice none 0 0, .int .i64 e]) (resM (onErr m ws n) (onAt m ws) (2 ^ n.toNat) (2 ^ n.toNat)) := fun e he h => by
    rw [he, resM_bad h]
    exact .bad
  conv => whnf
  refine if_intro (fun he => ?_) (fun he => ?_)
  · conv => whnf
    have he : checkMR m ≠ 0 := by simpa using he
    refine bad _ ?_ he
    unfold onErr; rw [checkMF_checkMR, if_pos he]
  have he : checkMR m = 0 := by simpa using he
  have hf : checkMF m = 0 := by rw [checkMF_checkMR, he]
  have rm := right_of hf
  conv => whnf
  have err3 : (decide (n < 0) || decide (n > 6)) = true → onErr m ws n = 3 := fun h => by
    unfold onErr; rw [if_neg (by simpa using hf), if_pos h]
  refine if_intro (fun h1 => ?_) (fun h1 => ?_)
  · conv => whnf
    exact bad _ (err3 (by rw [h1]; rfl)) (by decide)
  conv => whnf
  refine if_intro (fun h2 => ?_) (fun h2 => ?_)
  · conv => whnf
    exact bad _ (err3 (by rw [h2, Bool.or_true])) (by decide)
  have h12 : (decide (n < 0) || decide (n > 6)) = false := by rw [h1, h2]; rfl
  conv => whnf
  refine (c70 ws n (by omega) _ _ (IntsH.up hv s1)).val fun H2 s2 => ?_
  conv => whnf
  have epl : placesR ws n ≠ 0 → onErr m ws n = placesR ws n := fun h => by
    unfold onErr
    rw [if_neg (by simpa using hf), if_neg (by rw [h12]; simp)]
    unfold placesR at h ⊢
    split
    · rfl
    · rename_i h3
      rw [if_neg h3] at h
      split
      · rfl
      · rename_i h4
        rw [if_neg h4] at h
        exact absurd rfl h
  refine if_intro (fun h3 => ?_) (fun h3 => ?_)
  · have h3 : placesR ws n ≠ 0 := by simpa using h3
    conv => whnf
    exact bad _ (epl h3) h3
  have h3 : placesR ws n = 0 := by simpa using h3
  have hall : ws.all (inW n) = true := by
    cases e : ws.all (inW n) with
    | true => rfl
    | false => unfold placesR at h3; rw [if_pos e] at h3; cases h3
  have htw : twiceF ws = false := by
    cases e : twiceF ws with
    | false => rfl
    | true => unfold placesR at h3; rw [if_neg (by rw [hall]; simp), if_pos e] at h3; cases h3
  have err7 : ((m.length : Int) == (wideM m : Int)) = false ∨ (m.length : Int) ≠ shlI 1 ws.length → onErr m ws n = 7 := fun h => by
    unfold onErr
    rw [if_neg (by simpa using hf), if_neg (by rw [h12]; simp), if_neg (by rw [hall]; simp), if_neg (by rw [htw]; simp), if_pos h]
  conv => whnf
  refine if_intro (fun h4 => ?_) (fun h4 => ?_)
  · have h4 : (m.length : Int) ≠ shlI 1 ws.length := by simpa [shlI] using h4
    conv => whnf
    exact bad _ (err7 (.inr h4)) (by decide)
  have h4 : (m.length : Int) = shlI 1 ws.length := by simpa [shlI] using h4
  obtain ⟨hL, hM⟩ := shl_len h4 rm.pos rm.le
  obtain ⟨b0, off0, rb, rc, rfl, hrd0, hn0⟩ := hu.at rm.pos
  conv => whnf
  refine dec_intro (by have := rm.pos; omega) ?_
  conv => whnf
  refine ⟨_, hrd0 _ _ (s1.trans s2), ?_⟩
  conv => whnf
  rw [← wideM_get rm.pos]
  refine if_intro (fun h5 => ?_) (fun h5 => ?_)
  · have h5 : (wideM m : Int) ≠ m.length := by simpa using h5
    conv => whnf
    exact bad _ (err7 (.inl (by simpa using fun e => h5 (by rw [e])))) (by decide)
  have h5 : wideM m = m.length := by
    have : (wideM m : Int) = m.length := by simpa using h5
    omega
  have err0 : onErr m ws n = 0 := by
    unfold onErr
    rw [if_neg (by simpa using hf), if_neg (by rw [h12]; simp), if_neg (by rw [hall]; simp), if_neg (by rw [htw]; simp), if_neg (by rw [h5, ← h4]; simp)]
  conv => whnf
  have hn1 := of_decide_eq_false h1
  have hn2 := of_decide_eq_false h2
  obtain ⟨n, rfl⟩ := nat_of (a := n) (by omega)
  rw [show 2 ^ (n : Int).toNat = 2 ^ n by rw [Int.toNat_natCast]]
  have p2 : 2 ^ n ≤ 64 := by
    have : 2 ^ n ≤ 2 ^ 6 := Nat.pow_le_pow_right (by decide) (by omega)
    omega
  have hw0 : ∀ w ∈ ws, 0 ≤ w := fun x hx => by
    have := List.all_eq_true.1 hall x hx
    unfold inW at this
    simp at this
    omega
  have hl6 : ws.length ≤ 6 := by
    rcases Nat.lt_or_ge 6 ws.length with h | h
    · have : 2 ^ 7 ≤ 2 ^ ws.length := Nat.pow_le_pow_right (by decide) h
      have := rm.le
      omega
    · exact h
  have bnd : ∀ k : Nat, 0 ≤ (splitF ws ws.length k).1 ∧ (splitF ws ws.length k).1 < m.length := fun k => by
    have := splitF_bound ws ws.length k (by omega)
    rw [hM]
    simpa using this
  have tks : ∀ k : Nat, k < 64 → takenF ws k ws.length = splitF ws ws.length k := fun k hk => taken_split ws n (by omega) hall htw k hk hl6
  rw [resM_ok err0 (errs_zero fun i k hi hk => by
    unfold onAt
    split
    · rfl
    · obtain ⟨b1', b2'⟩ := bnd i
      obtain ⟨b3', b4'⟩ := bnd k
      obtain ⟨p, hp⟩ : ∃ p : Nat, (splitF ws ws.length i).1 = p := ⟨(splitF ws ws.length i).1.toNat, by omega⟩
      obtain ⟨q, hqq⟩ : ∃ q : Nat, (splitF ws ws.length k).1 = q := ⟨(splitF ws ws.length k).1.toNat, by omega⟩
      have hpl : p < m.length := by omega
      have hql : q < m[p].length := by rw [rm.row _ (List.getElem_mem hpl), h5]; omega
      have hck0 := (checkMR_zero he).2.2.2 _ (List.getElem_mem hpl) _ (List.getElem_mem hql)
      rw [hp, hqq, Int.toNat_natCast, Int.toNat_natCast, entry_get hpl hql, LeastF_eq (by rw [checkF_checkR]; exact hck0)])]
  conv => whnf
  rw [shl1 (by omega)]
  obtain ⟨s, hs⟩ : ∃ s, s = 2 ^ n := ⟨_, rfl⟩
  have shs : IntKind.i64.wrap (1 * 2 ^ (min (n : Int).toNat IntKind.i64.bits)) = (s : Int) := by rw [shl1 (by omega), hs]
  rw [← hs] at p2 ⊢
  refine dec_intro (Int.le_refl _) ?_
  conv => whnf
  refine dec_intro (by omega) ?_
  conv => whnf
  refine dec_intro (by omega) ?_
  conv => whnf
  intro b1 hb1 _
  conv => whnf
  refine W_loop (pol := polL) Γok (Nat × List Nat × PH × PH) (fun i => i.1 ≤ s ∧ Sub H2 i.2.2.1 ∧ HalfM i.2.2.2 b1 s s i.2.1 (gridM (onAt m ws) i.1 s)) (fun i => s - i.1) (fun i => [(11, .v (.int .i64 i.1))]) (fun _ => []) (fun i => i.2.2.1) (fun i => i.2.2.2) ⟨(0, [], H2, _), ⟨by simp, Sub.refl _, HalfM.start b1 s s emp⟩, rfl, rfl, ?_⟩ ?_
  · conv => whnf
    repeat (refine ⟨rfl, ?_⟩; conv => whnf)
    exact trivial
  · rintro ⟨i, bs, H3, O'⟩ ⟨k1, s3, g⟩
    dsimp only at k1 s3 g
    conv => whnf
    rw [shs]
    refine if_intro (fun hc => ?_) (fun hc => ?_)
    · have hi : i < s := by simpa using hc
      have hbl : i = bs.length := by rw [g.rows.len, gridM_len]
      conv => whnf
      rw [shs]
      refine dec_intro (Int.le_refl _) ?_
      conv => whnf
      refine dec_intro (by omega) ?_
      conv => whnf
      refine dec_intro (by omega) ?_
      conv => whnf
      intro b hb hO
      conv => whnf
      refine dec_intro (by omega) ?_
      conv => whnf
      obtain ⟨cs, q1, q2, g2⟩ := g.row hbl hi hO
      refine ⟨cs, _, q1, q2, ?_⟩
      conv => whnf
      have t3 : Sub H H3 := s1.trans (s2.trans s3)
      refine (c71 ws (by omega) hw0 i _ _ (IntsH.up hv t3)).val fun H4 s4 => ?_
      rw [tks i (by omega)]
      conv => whnf
      have hml : i = (gridM (onAt m ws) i s).length := (gridM_len _ _ _).symm
      rw [← halfR_zero (onAt m ws) i s] at g2
      refine W_loop (pol := polL) Γok (Nat × PH × PH) (fun k => k.1 ≤ s ∧ Sub H4 k.2.1 ∧ HalfM k.2.2 b1 s s (bs ++ [b]) (gridM (onAt m ws) i s ++ [halfR (onAt m ws) i s k.1])) (fun k => s - k.1) (fun k => [(14, .v (.int .i64 k.1))]) (fun _ => []) (fun k => k.2.1) (fun k => k.2.2) ⟨(0, H4, _), ⟨by simp, Sub.refl _, g2⟩, rfl, rfl, ?_⟩ ?_
      · conv => whnf
        repeat (refine ⟨rfl, ?_⟩; conv => whnf)
        exact trivial
      · rintro ⟨k, H5, O2⟩ ⟨j1, s5, gk⟩
        dsimp only at j1 s5 gk
        conv => whnf
        rw [shs]
        refine if_intro (fun hck => ?_) (fun hck => ?_)
        · have hk : k < s := by simpa using hck
          conv => whnf
          have t5 : Sub H H5 := t3.trans (s4.trans s5)
          refine (c71 ws (by omega) hw0 k _ _ (IntsH.up hv t5)).val fun H6 s6 => ?_
          rw [tks k (by omega)]
          conv => whnf
          refine if_intro (fun hq => ?_) (fun hq => ?_)
          · have hq : (splitF ws ws.length i).2 = (splitF ws ws.length k).2 := by simpa using hq
            obtain ⟨b1', b2'⟩ := bnd i
            obtain ⟨b3', b4'⟩ := bnd k
            obtain ⟨p, hp⟩ : ∃ p : Nat, (splitF ws ws.length i).1 = p := ⟨(splitF ws ws.length i).1.toNat, by omega⟩
            obtain ⟨q, hqq⟩ : ∃ q : Nat, (splitF ws ws.length k).1 = q := ⟨(splitF ws ws.length k).1.toNat, by omega⟩
            have hpl : p < m.length := by omega
            have hql : q < m[p].length := by rw [rm.row _ (List.getElem_mem hpl), h5]; omega
            have hck0 := (checkMR_zero he).2.2.2 _ (List.getElem_mem hpl) _ (List.getElem_mem hql)
            have hF : (onAt m ws i k).1 = formR m[p][q].1 m[p][q].2 := by
              unfold onAt
              rw [if_neg (by rw [hq]; simp), hp, hqq, Int.toNat_natCast, Int.toNat_natCast, entry_get hpl hql, LeastF_eq (by rw [checkF_checkR]; exact hck0)]
            obtain ⟨c1, c2, _⟩ := checkR_zero hck0
            obtain ⟨rb', ro', rb2, rc2, hbe, hrd, hnum⟩ := hu.at hpl
            cases hbe
            obtain ⟨eb, eo, rfl, hx⟩ := hnum.at hql
            rw [hp, hqq]
            conv => whnf
            have him : i < (gridM (onAt m ws) i s ++ [halfR (onAt m ws) i s k]).length := by rw [List.length_append, gridM_len]; simp
            refine W_lend (parts_only _ b1) fun hd => ?_
            obtain ⟨bb, hbb, hne, hl, hOb, hOb', hrl⟩ := gk.lent him hd
            have hkl : k < ((gridM (onAt m ws) i s ++ [halfR (onAt m ws) i s k])[i]).length := by rw [hl]; exact hk
            have g3 := gk.setN (formR m[p][q].1 m[p][q].2) hbb him hkl
            rw [setM_last _ _ hml, halfR_set _ _ _ _ _ hF] at g3
            refine W_draw (pol := polL) Γok mixes [(0, .pend), (1, .pend), (2, .pend), (3, .pend), (4, .pend), (5, .pendO), (6, .pendO), (7, .pendO), (8, .pendO), (9, .pendO), (10, .pendO), (11, .pendO), (12, .lock), (13, .pendO), (14, .lock)] 100 (by kernel_rfl) rfl ?_
            conv => whnf
            refine dec_intro (by omega) ?_
            conv => whnf
            refine ⟨_, hrl _ _ (Sub.refl _), ?_⟩
            conv => whnf
            refine dec_intro (by omega) ?_
            conv => whnf
            refine ⟨_, hrd _ _ ((t5.trans s6).trans (sub_un _ _)), ?_⟩
            conv => whnf
            refine dec_intro (by omega) ?_
            conv => whnf
            refine ⟨_, hx _ _ ((t5.trans s6).trans (sub_un _ _)), ?_⟩
            conv => whnf
            refine (c72 m[p][q].1 m[p][q].2 (by omega) (by omega) _).val fun H7 s7 => ?_
            conv => whnf
            refine dec_intro (by omega) ?_
            conv => whnf
            refine ⟨_, _, hOb', ?_, ?_⟩
            · show _ ≤ (cellsN _).length
              rw [cellsN_length, hl]
              simp only [Int.toNat_natCast, List.length_cons, List.length_nil]
              omega
            conv => whnf
            refine ⟨fun n o hn => s7 n o (un_right hd hn), fun q b3 hq hp => (noLoc (by simp) hq).elim, fun H8 e1 e2 => ?_⟩
            conv => whnf
            have s8 : Sub H4 H8 := fun n o hn => by
              have h1 := s6 n o (s5 n o hn)
              have h2 := (hd n).resolve_left (by rw [h1]; simp)
              exact (e1 n h2).trans (s7 n o (sub_un _ _ n o h1))
            rw [← un_only hne gk.list] at g3
            refine ⟨(k + 1, H8, _), ⟨hk, s8, g3⟩, by dsimp only; omega, ?_⟩
            refine ⟨rfl, rfl, ?_⟩
            conv => whnf
            repeat (refine ⟨rfl, ?_⟩; conv => whnf)
            refine ⟨by show En.v (.int .i64 (IntKind.i64.wrap (k + 1))) = _; rw [wrap_id (by omega) (by omega)]; rfl, ?_⟩
            conv => whnf
            repeat (refine ⟨rfl, ?_⟩; conv => whnf)
            exact trivial
          · have hq : (splitF ws ws.length i).2 ≠ (splitF ws ws.length k).2 := by simpa using hq
            have hF : (onAt m ws i k).1 = (P4.zero, 0) := by
              unfold onAt
              rw [if_pos hq]
            conv => whnf
            refine ⟨(k + 1, H6, O2), ⟨hk, s5.trans s6, ?_⟩, by dsimp only; omega, ?_⟩
            · dsimp only
              rw [halfR_skip _ _ _ _ hF]
              exact gk
            refine ⟨rfl, rfl, ?_⟩
            conv => whnf
            repeat (refine ⟨rfl, ?_⟩; conv => whnf)
            refine ⟨by show En.v (.int .i64 (IntKind.i64.wrap (k + 1))) = _; rw [wrap_id (by omega) (by omega)]; rfl, ?_⟩
            conv => whnf
            repeat (refine ⟨rfl, ?_⟩; conv => whnf)
            exact trivial
        · have hk : k = s := by
            have h := of_decide_eq_false hck
            omega
          subst hk
          rw [← halfR_full] at gk
          conv => whnf
          refine ⟨(i + 1, bs ++ [b], H5, O2), ⟨hi, s3.trans (s4.trans s5), gk⟩, by dsimp only; omega, ?_⟩
          refine ⟨rfl, rfl, ?_⟩
          conv => whnf
          repeat (refine ⟨rfl, ?_⟩; conv => whnf)
          refine ⟨by show En.v (.int .i64 (IntKind.i64.wrap (i + 1))) = _; rw [wrap_id (by omega) (by omega)]; rfl, ?_⟩
          conv => whnf
          repeat (refine ⟨rfl, ?_⟩; conv => whnf)
          exact trivial
    · have hi : i = s := by
        have h := of_decide_eq_false hc
        omega
      subst hi
      conv => whnf
      exact ⟨_, rfl, .inr ⟨i, i, by omega, by omega, g.own (gridM_len _ _ _)⟩⟩
end Go.Proofs.YtmhnalikebkhjaaGreat


namespace Go.Proofs.YtmhnalikebkhjaaGreat
open Go.Proofs.YtmhnalikebkhjaaGreat.X Go.Proofs.YtmhnalikebkhjaaGreat.X.PH
set_option maxRecDepth 100000

theorem OwnQ.pub {H M : PH} (hd : Dis H M) {u : Value} {x : Mx} (h : OwnQ M u x) : ∃ H' M', Repart H M H' M' ∧ MatH H' u x := ⟨_, _, .all hd, h.share hd⟩
theorem c68h (to : List Int) (k : Mx) (hn : to.length < 1000) (ht : ∀ k, k < to.length → to[k]? = some (((to.getD k 0).toNat : Nat) : Int) ∧ (to.getD k 0).toNat < to.length) (hk : movedM (fun k => (to.getD k 0).toNat) to.length to.length = k) (H : PH) (v : Value) (hv : IntsH H v to) :
    Cl Tryz.prog 50 [v] H emp fun r H' _ => MatH H' r k :=
  (c68 to (fun k => (to.getD k 0).toNat) hn ht H v hv).repart fun _ _ _ _ hd h => by rw [hk] at h; exact h.pub hd
theorem c69h (ps : List Int) (k : Mx) (hn : ps.length < 1000) (ht : ∀ k, k < ps.length → ps[k]? = some (((ps.getD k 0).toNat : Nat) : Int) ∧ (ps.getD k 0).toNat < 8) (hk : diagR (fun p => OmegaF ((ps.getD p 0).toNat : Nat)) ps.length ps.length = k) (H : PH) (v : Value) (hv : IntsH H v ps) :
    Cl Tryz.prog 51 [v] H emp fun r H' _ => MatH H' r k :=
  (c69 ps (fun k => (ps.getD k 0).toNat) hn ht H v hv).repart fun _ _ _ _ hd h => by rw [hk] at h; exact h.pub hd
/-- The operator of a kind, of the reference. -/
def OfR (kind : Int) : Mx × Int := if 1 ≤ kind ∧ kind ≤ 12 then (opM kind.toNat, 0) else ([], 3)
theorem c18 (kind : Int) (H : PH) : Cl Tryz.prog 15 [.int .i64 kind] H emp fun r H' _ => OutH H' r (OfR kind) := by
  refine Cl_of (pol := fun _ => .imm) Γok Tryz.func15 (by kernel_rfl) rfl ?_
  conv => whnf
  refine if_intro (fun h1 => ?_) (fun h1 => ?_)
  · have h1 : kind = 1 := by simpa using h1
    subst h1
    conv => whnf
    intro b hb _
    conv => whnf
    refine (c68h [1, 0] (opM 1) (by decide) (by decide) (by kernel_rfl) _ _ (ints_lit (ins_same _ _ _))).use fun r H1 s1 hr => ?_
    conv => whnf
    obtain ⟨_, hr⟩ := hr
    exact ⟨r, rfl, hr⟩
  conv => whnf
  refine if_intro (fun h2 => ?_) (fun h2 => ?_)
  · have h2 : kind = 2 := by simpa using h2
    subst h2
    conv => whnf
    intro b1 hb1 _
    conv => whnf
    intro b2 hb2 _
    conv => whnf
    intro b3 hb3 _
    conv => whnf
    refine ⟨_, rfl, ?_⟩
    have s2 := sub_ins _ (.cells ⟨cellsOf (OmegaF 2) ++ cellsOf ((P4.zero, 0) : P4 × Int)⟩ 36 (0, 0)) hb2
    have s3 := sub_ins _ (.cells ⟨[rowV b1 2, rowV b2 2]⟩ 43 (0, 0)) hb3
    exact mat2 (ins_same _ _ _) (NumH.up (NumH.up (pair_num (ins_same _ _ _)) s2) s3) (NumH.up (pair_num (ins_same _ _ _)) s3)
  conv => whnf
  refine if_intro (fun h3 => ?_) (fun h3 => ?_)
  · have h3 : kind = 3 := by simpa using h3
    subst h3
    conv => whnf
    intro b hb _
    conv => whnf
    refine (c69h [0, 4] (opM 3) (by decide) (by decide) (by kernel_rfl) _ _ (ints_lit (ins_same _ _ _))).use fun r H1 s1 hr => ?_
    conv => whnf
    obtain ⟨_, hr⟩ := hr
    exact ⟨r, rfl, hr⟩
  conv => whnf
  refine if_intro (fun h4 => ?_) (fun h4 => ?_)
  · have h4 : kind = 4 := by simpa using h4
    subst h4
    conv => whnf
    intro b1 hb1 _
    conv => whnf
    intro b2 hb2 _
    conv => whnf
    intro b3 hb3 _
    conv => whnf
    refine ⟨_, rfl, ?_⟩
    have s2 := sub_ins _ (.cells ⟨cellsOf rootN ++ cellsOf minusN⟩ 36 (0, 0)) hb2
    have s3 := sub_ins _ (.cells ⟨[rowV b1 2, rowV b2 2]⟩ 43 (0, 0)) hb3
    exact mat2 (ins_same _ _ _) (NumH.up (NumH.up (pair_num (ins_same _ _ _)) s2) s3) (NumH.up (pair_num (ins_same _ _ _)) s3)
  conv => whnf
  refine if_intro (fun h5 => ?_) (fun h5 => ?_)
  · have h5 : kind = 5 := by simpa using h5
    subst h5
    conv => whnf
    intro b hb _
    conv => whnf
    refine (c69h [0, 2] (opM 5) (by decide) (by decide) (by kernel_rfl) _ _ (ints_lit (ins_same _ _ _))).use fun r H1 s1 hr => ?_
    conv => whnf
    obtain ⟨_, hr⟩ := hr
    exact ⟨r, rfl, hr⟩
  conv => whnf
  refine if_intro (fun h6 => ?_) (fun h6 => ?_)
  · have h6 : kind = 6 := by simpa using h6
    subst h6
    conv => whnf
    intro b hb _
    conv => whnf
    refine (c69h [0, 6] (opM 6) (by decide) (by decide) (by kernel_rfl) _ _ (ints_lit (ins_same _ _ _))).use fun r H1 s1 hr => ?_
    conv => whnf
    obtain ⟨_, hr⟩ := hr
    exact ⟨r, rfl, hr⟩
  conv => whnf
  refine if_intro (fun h7 => ?_) (fun h7 => ?_)
  · have h7 : kind = 7 := by simpa using h7
    subst h7
    conv => whnf
    intro b hb _
    conv => whnf
    refine (c69h [0, 1] (opM 7) (by decide) (by decide) (by kernel_rfl) _ _ (ints_lit (ins_same _ _ _))).use fun r H1 s1 hr => ?_
    conv => whnf
    obtain ⟨_, hr⟩ := hr
    exact ⟨r, rfl, hr⟩
  conv => whnf
  refine if_intro (fun h8 => ?_) (fun h8 => ?_)
  · have h8 : kind = 8 := by simpa using h8
    subst h8
    conv => whnf
    intro b hb _
    conv => whnf
    refine (c69h [0, 7] (opM 8) (by decide) (by decide) (by kernel_rfl) _ _ (ints_lit (ins_same _ _ _))).use fun r H1 s1 hr => ?_
    conv => whnf
    obtain ⟨_, hr⟩ := hr
    exact ⟨r, rfl, hr⟩
  conv => whnf
  refine if_intro (fun h9 => ?_) (fun h9 => ?_)
  · have h9 : kind = 9 := by simpa using h9
    subst h9
    conv => whnf
    intro b hb _
    conv => whnf
    refine (c68h [0, 3, 2, 1] (opM 9) (by decide) (by decide) (by kernel_rfl) _ _ (ints_lit (ins_same _ _ _))).use fun r H1 s1 hr => ?_
    conv => whnf
    obtain ⟨_, hr⟩ := hr
    exact ⟨r, rfl, hr⟩
  conv => whnf
  refine if_intro (fun h10 => ?_) (fun h10 => ?_)
  · have h10 : kind = 10 := by simpa using h10
    subst h10
    conv => whnf
    intro b hb _
    conv => whnf
    refine (c69h [0, 0, 0, 4] (opM 10) (by decide) (by decide) (by kernel_rfl) _ _ (ints_lit (ins_same _ _ _))).use fun r H1 s1 hr => ?_
    conv => whnf
    obtain ⟨_, hr⟩ := hr
    exact ⟨r, rfl, hr⟩
  conv => whnf
  refine if_intro (fun h11 => ?_) (fun h11 => ?_)
  · have h11 : kind = 11 := by simpa using h11
    subst h11
    conv => whnf
    intro b hb _
    conv => whnf
    refine (c68h [0, 2, 1, 3] (opM 11) (by decide) (by decide) (by kernel_rfl) _ _ (ints_lit (ins_same _ _ _))).use fun r H1 s1 hr => ?_
    conv => whnf
    obtain ⟨_, hr⟩ := hr
    exact ⟨r, rfl, hr⟩
  conv => whnf
  refine if_intro (fun h12 => ?_) (fun h12 => ?_)
  · have h12 : kind = 12 := by simpa using h12
    subst h12
    conv => whnf
    intro b hb _
    conv => whnf
    refine (c68h [0, 1, 2, 7, 4, 5, 6, 3] (opM 12) (by decide) (by decide) (by kernel_rfl) _ _ (ints_lit (ins_same _ _ _))).use fun r H1 s1 hr => ?_
    conv => whnf
    obtain ⟨_, hr⟩ := hr
    exact ⟨r, rfl, hr⟩
  conv => whnf
  have e : OfR kind = ([], 3) := by
    unfold OfR
    rw [if_neg]
    rintro ⟨q1, q2⟩
    simp at h1 h2 h3 h4 h5 h6 h7 h8 h9 h10 h11 h12
    omega
  rw [e]
  exact ⟨_, rfl, nilM _⟩
end Go.Proofs.YtmhnalikebkhjaaGreat


namespace Go.Proofs.YtmhnalikebkhjaaGreat
open Go.Proofs.YtmhnalikebkhjaaGreat.X Go.Proofs.YtmhnalikebkhjaaGreat.X.PH
set_option maxRecDepth 100000

/-- What is new. -/
def newH (H0 H : PH) : PH := fun n => match H0 n with
  | some _ => none
  | none => H n
theorem newH_some {H0 H : PH} {n : Nat} {o : Obj} (h0 : H0 n = none) (h : H n = some o) : newH H0 H n = some o := by simp [newH, h0, h]
theorem newH_up {H0 H H' : PH} (hs : Sub H H') : Sub (newH H0 H) (newH H0 H') := fun n o hn => by
  unfold newH at hn ⊢
  cases e : H0 n with
  | some _ => rw [e] at hn; cases hn
  | none => rw [e] at hn; exact hs n o hn
theorem newH_base {H0 H1 H : PH} (hs : Sub H0 H1) : Sub (newH H1 H) (newH H0 H) := fun n o hn => by
  unfold newH at hn ⊢
  cases e : H1 n with
  | some _ => rw [e] at hn; cases hn
  | none =>
    rw [e] at hn
    cases e0 : H0 n with
    | some o' => rw [hs n o' e0] at e; cases e
    | none => exact hn
/-- A matrix that is new, and lies by itself. -/
def MatN (H0 H : PH) (v : Value) (m : Mx) : Prop := ∃ h w, h < 1000000 ∧ w < 1000000 ∧ OwnM (newH H0 H) v h w m
theorem MatN.up {H0 H H' : PH} {v : Value} {m : Mx} (h : MatN H0 H v m) (hs : Sub H H') : MatN H0 H' v m := by
  obtain ⟨a, b, h1, h2, h3⟩ := h
  exact ⟨a, b, h1, h2, h3.up (newH_up hs)⟩
theorem MatN.base {H0 H1 H : PH} {v : Value} {m : Mx} (h : MatN H1 H v m) (hs : Sub H0 H1) : MatN H0 H v m := by
  obtain ⟨a, b, h1, h2, h3⟩ := h
  exact ⟨a, b, h1, h2, h3.up (newH_base hs)⟩
/-- The list of the rows is new. -/
def ListN (H0 H : PH) (v : Value) (bs : List Nat) (h w : Nat) : Prop := ∃ b0, v = .slice (some ⟨b0, 0, none⟩) h h ∧ H0 b0 = none ∧ H b0 = some (.cells ⟨bs.map fun b => rowV b w⟩ 43 (0, 0))
theorem ListN.up {H0 H H' : PH} {v : Value} {bs : List Nat} {h w : Nat} (k : ListN H0 H v bs h w) (hs : Sub H H') : ListN H0 H' v bs h w := by
  obtain ⟨b0, h1, h2, h3⟩ := k
  exact ⟨b0, h1, h2, hs _ _ h3⟩
theorem RowsB.new {H0 H M : PH} (hs : Sub H0 H) (hd : Dis H M) {v : Value} {bs : List Nat} {h w : Nat} {m : Mx} (hh : h < 1000000) (hw : w < 1000000) (hm : RowsB H M v bs h w m) (hl : ListN H0 H v bs h w) : MatN H0 (un H M) v m := by
  obtain ⟨b0, rfl, h2, h3⟩ := hl
  have hM : ∀ b o, M b = some o → newH H0 (un H M) b = some o := fun b o hb => by
    have h1 : H b = none := (hd b).resolve_right (by rw [hb]; simp)
    have h0 : H0 b = none := by
      cases e : H0 b with
      | none => rfl
      | some o' => rw [hs b o' e] at h1; cases h1
    exact newH_some h0 (un_right hd hb)
  refine ⟨h, w, hh, hw, hm.len, hm.wid, bs, b0, ⟨hm.rows.len, hm.rows.nodup, fun i b r h4 h5 => hM _ _ (hm.rows.cells i b r h4 h5)⟩, fun hb => ?_, rfl, newH_some h2 (by simp [un, h3])⟩
  obtain ⟨i, hi, e⟩ := List.mem_iff_getElem.1 hb
  have := hm.rows.cells i b0 (m[i]'(by rw [← hm.rows.len]; exact hi)) (by rw [List.getElem?_eq_getElem hi, e]) (List.getElem?_eq_getElem _)
  rcases hd b0 with h | h
  · rw [h3] at h; cases h
  · rw [this] at h; cases h
theorem c73n (h w : Nat) (hh : h < 1000000) (hw : w < 1000000) (H : PH) : Cl Tryz.prog 87 [.int .i64 h, .int .i64 w] H emp fun r H' M' => ∃ bs base cap, r = .slice base h cap ∧ RowsB H' M' r bs h w (List.replicate h (zeros w)) ∧ ListN H H' r bs h w := by
  refine (c73 h w hh hw H).repart fun r H' M' hs hd hq => ?_
  obtain ⟨_, hq⟩ := hq
  obtain ⟨bs, b0, rfl, hB⟩ := hq.ownB
  have hb0 : H' b0 = none := (hd b0).resolve_right (by rw [hB.list]; simp)
  refine ⟨_, _, .one hd hB.list, bs, _, _, rfl, ⟨hB.rows.of_sub fun b hb => del_ne _ fun e => by subst e; exact hB.nb hb, ⟨_, _, rfl, .inr ⟨b0, 0, _, _, _, rfl, ins_same _ _ _, ?_⟩⟩, hB.len, hB.wid⟩, b0, rfl, ?_, ins_same _ _ _⟩
  · rw [List.drop_zero]
    exact List.take_length
  · cases e : H b0 with
    | none => rfl
    | some o => rw [hs _ _ e] at hb0; cases hb0
theorem c133n (t : Nat → Nat) (n : Nat) (hn : n < 1000000) (ht : ∀ k, k < n → t k < n) (H : PH) (fn : Fn) (first cp : Array Value) (hf : ∀ k, k < n → Does Tryz.prog H (.func fn first cp) [.int .i64 k] fun r _ => r = .int .i64 (t k)) :
    Cl Tryz.prog 100 [.int .i64 n, .func fn first cp] H emp fun r H' M' => ∃ bs, RowsB H' M' r bs n n (movedM t n n) ∧ ListN H H' r bs n n := by
  refine Cl_of (pol := polL) Γok Tryz.func100 (by kernel_rfl) rfl ?_
  conv => whnf
  refine (c73n n n hn hn H).mono fun r H1 M1 hs1 hq => ?_
  obtain ⟨bs, base, cap, rfl, hB, hF⟩ := hq
  conv => whnf
  refine W_loop (pol := polL) Γok (Nat × PH × PH) (fun i => i.1 ≤ n ∧ Sub H1 i.2.1 ∧ RowsB H1 i.2.2 (.slice base n cap) bs n n (movedM t n i.1)) (fun i => n - i.1) (fun i => [(11, .v (.int .i64 i.1))]) (fun _ => []) (fun i => i.2.1) (fun i => i.2.2) ⟨(0, H1, M1), ⟨by simp, Sub.refl _, hB⟩, rfl, rfl, ?_⟩ ?_
  · conv => whnf
    repeat (refine ⟨rfl, ?_⟩; conv => whnf)
    exact trivial
  · rintro ⟨i, H', O⟩ ⟨h1, h2, h3⟩
    dsimp only at h1 h2 h3
    conv => whnf
    refine if_intro (fun hg => ?_) (fun hg => ?_)
    · have hi : i < n := by simpa using hg
      conv => whnf
      refine W_draw (pol := polL) Γok mixes [(0, .pend), (1, .pendO), (2, .pendO), (6, .pend), (3, .lock), (4, .pend), (5, .pend), (7, .lock), (8, .pendO), (9, .lock)] 25 (by kernel_rfl) rfl ?_
      conv => whnf
      refine (((hf i hi).up hs1).up h2).use fun r H2 hs2 hr => ?_
      subst hr
      conv => whnf
      obtain ⟨b0, off, b, r, rfl, hb, hr, hl, hO, hrd⟩ := (h3.up (h2.trans hs2)).row (ht i hi)
      have hti := ht i hi
      conv => whnf
      refine dec_intro (by omega) ?_
      conv => whnf
      refine ⟨_, hrd _, ?_⟩
      conv => whnf
      refine (c74 _).val fun H3 hs3 => ?_
      conv => whnf
      refine dec_intro (by omega) ?_
      conv => whnf
      refine ⟨_, _, hO, ?_, ?_⟩
      · show _ ≤ (cellsN r).length
        rw [cellsN_length, hl]
        simp only [Int.toNat_natCast, List.length_cons, List.length_nil]
        omega
      conv => whnf
      refine ⟨(i + 1, H3, _), ⟨hi, h2.trans (hs2.trans hs3), h3.set hb hr hi oneN⟩, by dsimp only; omega, ?_⟩
      conv => whnf
      refine ⟨rfl, rfl, ?_⟩
      conv => whnf
      repeat (refine ⟨rfl, ?_⟩; conv => whnf)
      refine ⟨by show En.v (.int .i64 (IntKind.i64.wrap (i + 1))) = _; rw [wrap_id (by omega) (by omega)]; rfl, ?_⟩
      conv => whnf
      repeat (refine ⟨rfl, ?_⟩; conv => whnf)
      exact trivial
    · conv => whnf
      have hi : i = n := by simp at hg; omega
      subst hi
      exact ⟨bs, h3.up h2, hF.up h2⟩
theorem c143n (l : List (P4 × Int)) (hn : l.length < 1000000) (H : PH) (v : Value) (hv : NumH H v l) :
    Cl Tryz.prog 102 [v] H emp fun r H' M' => ∃ bs, RowsB H' M' r bs l.length l.length (diagM l l.length) ∧ ListN H H' r bs l.length l.length := by
  obtain ⟨lb, lc, rfl, _⟩ := id hv
  refine Cl_of (pol := polL) Γok Tryz.func102 (by kernel_rfl) rfl ?_
  conv => whnf
  refine (c73n l.length l.length hn hn H).mono fun r H1 M1 hs1 hq => ?_
  obtain ⟨bs, base, cap, rfl, hB, hF⟩ := hq
  conv => whnf
  refine W_loop (pol := polL) Γok (Nat × PH × PH) (fun i => i.1 ≤ l.length ∧ Sub H1 i.2.1 ∧ RowsB H1 i.2.2 (.slice base l.length cap) bs l.length l.length (diagM l i.1)) (fun i => l.length - i.1) (fun i => [(13, .v (.int .i64 i.1))]) (fun _ => []) (fun i => i.2.1) (fun i => i.2.2) ⟨(0, H1, M1), ⟨by simp, Sub.refl _, hB⟩, rfl, rfl, ?_⟩ ?_
  · conv => whnf
    repeat (refine ⟨rfl, ?_⟩; conv => whnf)
    exact trivial
  · rintro ⟨i, H', O⟩ ⟨h1, h2, h3⟩
    dsimp only at h1 h2 h3
    conv => whnf
    refine if_intro (fun hg => ?_) (fun hg => ?_)
    · have hi : i < l.length := by simpa using hg
      obtain ⟨_, lb0, loff, rfl, hlrd⟩ := ((hv.up hs1).up h2).rd (O := emp) hi
      conv => whnf
      refine dec_intro (by omega) ?_
      conv => whnf
      refine ⟨_, hlrd.anyO, ?_⟩
      conv => whnf
      intro bx
      conv => whnf
      refine W_draw (pol := polL) Γok mixes [(0, .pendO), (1, .pendO), (2, .pendO), (3, .pendO), (4, .pendO), (5, .pendO), (6, .pendO), (7, .lock)] 27 (by kernel_rfl) rfl ?_
      obtain ⟨b0, off, b, r, rfl, hb, hr, hl, hO, hrd⟩ := (h3.up h2).row hi
      conv => whnf
      refine dec_intro (by omega) ?_
      conv => whnf
      refine ⟨_, hrd _, ?_⟩
      conv => whnf
      refine dec_intro (by omega) ?_
      conv => whnf
      refine ⟨_, _, hO, ?_, ?_⟩
      · show _ ≤ (cellsN r).length
        rw [cellsN_length, hl]
        simp only [Int.toNat_natCast, List.length_cons, List.length_nil]
        omega
      conv => whnf
      refine ⟨(i + 1, H', _), ⟨hi, h2, h3.set hb hr hi (l.getD i (P4.zero, 0))⟩, by dsimp only; omega, ?_⟩
      have hg : l.getD i (P4.zero, 0) = l[i] := by simp [List.getD_eq_getElem?_getD, hi]
      rw [hg]
      conv => whnf
      refine ⟨rfl, rfl, ?_⟩
      conv => whnf
      repeat (refine ⟨rfl, ?_⟩; conv => whnf)
      refine ⟨by show En.v (.int .i64 (IntKind.i64.wrap (i + 1))) = _; rw [wrap_id (by omega) (by omega)]; rfl, ?_⟩
      conv => whnf
      repeat (refine ⟨rfl, ?_⟩; conv => whnf)
      exact trivial
    · conv => whnf
      have hi : i = l.length := by simp at hg; omega
      subst hi
      exact ⟨bs, h3.up h2, hF.up h2⟩
theorem c20n (n : Nat) (hn : n ≤ 6) (H : PH) : Cl Tryz.prog 47 [.int .i64 n] H emp fun r H' M' => ∃ u bs, r = .tuple #[u, .int .i64 0] ∧ RowsB H' M' u bs (2 ^ n) (2 ^ n) (idM (2 ^ n) (2 ^ n)) ∧ ListN H H' u bs (2 ^ n) (2 ^ n) := by
  have p2 : 2 ^ n < 1000000 := by
    have : 2 ^ n ≤ 2 ^ 6 := Nat.pow_le_pow_right (by decide) hn
    omega
  have key : ∀ s : Nat, s = 2 ^ n → (s : Int) = 2 ^ n := fun s h => by rw [h]; simp
  refine Cl_of (pol := polL) Γok Tryz.func47 (by kernel_rfl) rfl ?_
  conv => whnf
  refine if_intro (fun h => ?_) (fun h => ?_)
  · simp at h
    omega
  conv => whnf
  refine W_draw (pol := polL) Γok mixes [(0, .pendO), (1, .pendO), (2, .pendO), (3, .pendO), (4, .lock), (5, .pendO)] 31 (by kernel_rfl) rfl ?_
  conv => whnf
  rw [shl1 (by omega)]
  obtain ⟨s, hs⟩ : ∃ s, s = 2 ^ n := ⟨_, rfl⟩
  rw [← hs] at p2 ⊢
  refine (c73n s s p2 p2 H).mono fun r H1 M1 hs1 hq => ?_
  obtain ⟨bs, base, cap, rfl, hB, hF⟩ := hq
  conv => whnf
  refine W_loop (pol := polL) Γok (Nat × PH × PH) (fun i => i.1 ≤ s ∧ Sub H1 i.2.1 ∧ RowsB H1 i.2.2 (.slice base s cap) bs s s (idM s i.1)) (fun i => s - i.1) (fun i => [(19, .v (.int .i64 i.1))]) (fun _ => []) (fun i => i.2.1) (fun i => i.2.2) ⟨(0, H1, M1), ⟨by simp, Sub.refl _, hB⟩, rfl, rfl, ?_⟩ ?_
  · conv => whnf
    repeat (refine ⟨rfl, ?_⟩; conv => whnf)
    exact trivial
  · rintro ⟨i, H', O⟩ ⟨h1, h2, h3⟩
    dsimp only at h1 h2 h3
    conv => whnf
    refine if_intro (fun hg => ?_) (fun hg => ?_)
    · have hi : i < s := by simpa using hg
      conv => whnf
      refine W_draw (pol := polL) Γok mixes [(0, .pend), (1, .pend), (2, .pend), (3, .pend), (4, .pend), (5, .lock), (6, .pendO), (7, .lock)] 31 (by kernel_rfl) rfl ?_
      obtain ⟨b0, off, b, r, rfl, hb, hr, hl, hO, hrd⟩ := (h3.up h2).row hi
      conv => whnf
      refine dec_intro (by omega) ?_
      conv => whnf
      refine ⟨_, hrd _, ?_⟩
      conv => whnf
      refine (c74 _).val fun H3 hs3 => ?_
      conv => whnf
      refine dec_intro (by omega) ?_
      conv => whnf
      refine ⟨_, _, hO, ?_, ?_⟩
      · show _ ≤ (cellsN r).length
        rw [cellsN_length, hl]
        simp only [Int.toNat_natCast, List.length_cons, List.length_nil]
        omega
      conv => whnf
      refine ⟨(i + 1, H3, _), ⟨hi, h2.trans hs3, h3.set hb hr hi oneN⟩, by dsimp only; omega, ?_⟩
      conv => whnf
      refine ⟨rfl, rfl, ?_⟩
      conv => whnf
      repeat (refine ⟨rfl, ?_⟩; conv => whnf)
      refine ⟨by show En.v (.int .i64 (IntKind.i64.wrap (i + 1))) = _; rw [wrap_id (by omega) (by omega)]; rfl, ?_⟩
      conv => whnf
      repeat (refine ⟨rfl, ?_⟩; conv => whnf)
      exact trivial
    · conv => whnf
      have hi : i = s := by simp at hg; omega
      subst hi
      exact ⟨_, bs, rfl, h3.up h2, hF.up h2⟩
theorem c133m (t : Nat → Nat) (n : Nat) (hn : n < 1000000) (ht : ∀ k, k < n → t k < n) (H : PH) (fn : Fn) (first cp : Array Value) (hf : ∀ k, k < n → Does Tryz.prog H (.func fn first cp) [.int .i64 k] fun r _ => r = .int .i64 (t k)) :
    Cl Tryz.prog 100 [.int .i64 n, .func fn first cp] H emp fun r H' _ => MatN H H' r (movedM t n n) :=
  (c133n t n hn ht H fn first cp hf).repart fun _ _ _ hs hd ⟨_, h, k⟩ => ⟨_, _, .all hd, h.new hs hd hn hn k⟩
theorem c143m (l : List (P4 × Int)) (hn : l.length < 1000000) (H : PH) (v : Value) (hv : NumH H v l) :
    Cl Tryz.prog 102 [v] H emp fun r H' _ => MatN H H' r (diagM l l.length) :=
  (c143n l hn H v hv).repart fun _ _ _ hs hd ⟨_, h, k⟩ => ⟨_, _, .all hd, h.new hs hd hn hn k⟩
theorem OwnM.sub {M M' : PH} {v : Value} {h w : Nat} {m : Mx} (hm : OwnM M v h w m) (hs : ∀ n o, M n = some o → M' n = some o) : OwnM M' v h w m := hm.up hs
/-- What is new is one's own, if one likes. -/
theorem Cl.mine {f : FuncId} {args : List Value} {H : PH} {m : Mx} {Q : Value → Value → Prop} (h : Cl Tryz.prog f args H emp fun r H' _ => ∃ u, Q r u ∧ MatN H H' u m) : Cl Tryz.prog f args H emp fun r _ M' => ∃ u, Q r u ∧ OwnQ M' u m :=
  (Cl.own h).mono fun r H2 M2 _ hq => by
    obtain ⟨rfl, H', M', ⟨u, q, a, b, h1, h2, h3⟩, _, _, _, h7⟩ := hq
    refine ⟨u, q, .inr ⟨a, b, h1, h2, h3.up fun n o hn => ?_⟩⟩
    unfold newH at hn
    cases e : H2 n with
    | some _ => rw [e] at hn; cases hn
    | none => rw [e] at hn; exact h7 n o e hn
theorem c20m (n : Nat) (hn : n ≤ 6) (H : PH) : Cl Tryz.prog 47 [.int .i64 n] H emp fun r _ M' => ∃ u, r = .tuple #[u, .int .i64 0] ∧ OwnQ M' u (idM (2 ^ n) (2 ^ n)) := by
  have p2 : 2 ^ n < 1000000 := by
    have : 2 ^ n ≤ 2 ^ 6 := Nat.pow_le_pow_right (by decide) hn
    omega
  exact Cl.mine (Q := fun r u => r = .tuple #[u, .int .i64 0]) ((c20n n hn H).repart fun _ _ _ hs hd ⟨u, _, h1, h, k⟩ => ⟨_, _, .all hd, u, h1, h.new hs hd p2 p2 k⟩)
end Go.Proofs.YtmhnalikebkhjaaGreat


namespace Go.Proofs.YtmhnalikebkhjaaGreat
open Go.Proofs.YtmhnalikebkhjaaGreat.X Go.Proofs.YtmhnalikebkhjaaGreat.X.PH
set_option maxRecDepth 100000

theorem newH_sub (H0 H : PH) : Sub (newH H0 H) H := fun n o hn => by
  unfold newH at hn
  cases e : H0 n with
  | some _ => rw [e] at hn; cases hn
  | none => rw [e] at hn; exact hn
theorem MatN.mat {H0 H : PH} {v : Value} {m : Mx} (h : MatN H0 H v m) : MatH H v m := by
  obtain ⟨a, b, h1, h2, h3⟩ := h
  have := OwnM.share (H := emp) (fun n => .inl rfl) h3
  exact this.up fun n o hn => by
    have : newH H0 H n = some o := by simpa [un, emp] using hn
    exact newH_sub _ _ n o this
/-- Numbers that are new, and lie by themselves. -/
def NumN (H0 H : PH) (v : Value) (l : List (P4 × Int)) : Prop := ∃ b, v = .slice (some ⟨b, 0, none⟩) l.length l.length ∧ H0 b = none ∧ H b = some (.cells ⟨cellsN l⟩ 36 (0, 0))
theorem NumN.up {H0 H H' : PH} {v : Value} {l : List (P4 × Int)} (k : NumN H0 H v l) (hs : Sub H H') : NumN H0 H' v l := by
  obtain ⟨b0, h1, h2, h3⟩ := k
  exact ⟨b0, h1, h2, hs _ _ h3⟩
theorem fresh_of {H0 H : PH} (hS : Sub H0 H) {b : Nat} (hb : H b = none) : H0 b = none := by
  cases e : H0 b with
  | none => rfl
  | some o => rw [hS _ _ e] at hb; cases hb
theorem numN_new {H0 H : PH} (hS : Sub H0 H) {b : Nat} (hb : H b = none) {l : List (P4 × Int)} {c : List Value} (hc : c = cellsN l) {n : Nat} (hn : n = l.length) : NumN H0 (ins H b (.cells ⟨c⟩ 36 (0, 0))) (.slice (some ⟨b, 0, none⟩) n n) l := by
  subst hc hn
  exact ⟨b, rfl, fresh_of hS hb, ins_same _ _ _⟩
theorem mat2N {H0 H : PH} (hS : Sub H0 H) {b : Nat} (hb : H b = none) {u1 u2 : Value} {r1 r2 : List (P4 × Int)} (h1 : NumN H0 H u1 r1) (h2 : NumN H0 H u2 r2) (l1 : r1.length = 2) (l2 : r2.length = 2) (hne : cellsN r1 ≠ cellsN r2) :
    MatN H0 (ins H b (.cells ⟨[u1, u2]⟩ 43 (0, 0))) (.slice (some ⟨b, 0, none⟩) 2 2) [r1, r2] := by
  obtain ⟨b1, rfl, f1, k1⟩ := h1
  obtain ⟨b2, rfl, f2, k2⟩ := h2
  have n12 : b1 ≠ b2 := fun e => by
    subst e
    rw [k1] at k2
    injection k2 with k2
    injection k2 with k2
    injection k2 with k2
    exact hne k2
  have n1 : b1 ≠ b := fun e => by subst e; rw [hb] at k1; cases k1
  have n2 : b2 ≠ b := fun e => by subst e; rw [hb] at k2; cases k2
  rw [l1, l2]
  refine ⟨2, 2, by decide, by decide, rfl, fun i r hr => ?_, [b1, b2], b, ⟨rfl, by simp [n12], fun i c r hc hr => ?_⟩, by simp [n1.symm, n2.symm], rfl, newH_some (fresh_of hS hb) (ins_same _ _ _)⟩
  · match i, hr with
    | 0, hr => cases hr; exact l1
    | 1, hr => cases hr; exact l2
  · match i, hc, hr with
    | 0, hc, hr => cases hc; cases hr; exact newH_some f1 ((ins_ne _ _ n1).trans k1)
    | 1, hc, hr => cases hc; cases hr; exact newH_some f2 ((ins_ne _ _ n2).trans k2)
def vInts (l : List Value) : List Int := l.map fun
  | .int _ n => n
  | _ => 0
def Sp.holdsN (H0 H : PH) (v : Value) : Sp → Prop
  | .skip => True
  | .val _ => True
  | .nums l => NumN H0 H v l
  | .mat m => MatN H0 H v m
theorem Sp.upN {H0 H H' : PH} {v : Value} {s : Sp} (hs : Sub H H') (h : s.holdsN H0 H v) : s.holdsN H0 H' v := by
  cases s with
  | skip => exact trivial
  | val x => exact trivial
  | nums l => exact NumN.up h hs
  | mat m => exact MatN.up h hs
def IOn (H0 : PH) (L : Nat → Bool) (V : Nat → Value) (H O : PH) : Prop := IO L V H O ∧ Sub H0 H ∧ ∀ (i : Nat) s, spO[i]? = some s → L i = true → s.holdsN H0 H (V i)
theorem holdsN_set {H0 : PH} {L : Nat → Bool} {V : Nat → Value} {H H2 : PH} {i : Nat} {v : Value} {s : Sp} (hI : ∀ (i : Nat) s, spO[i]? = some s → L i = true → s.holdsN H0 H (V i)) (hs : Sub H H2) (hsp : spO[i]? = some s) (hv : s.holdsN H0 H2 v) :
    ∀ (j : Nat) s, spO[j]? = some s → setL L i j = true → s.holdsN H0 H2 (setV V i v j) := by
  intro j s' hj hL
  by_cases e : j = i
  · subst e
    rw [hsp] at hj
    cases hj
    rw [setV_same]
    exact hv
  · rw [setL_ne L e] at hL
    rw [setV_ne V v e]
    exact Sp.upN hs (hI j s' hj hL)
theorem IOn_step {H0 : PH} {L : Nat → Bool} {V : Nat → Value} {H O H2 : PH} {i : Nat} {v : Value} {s : Sp} (hI : IOn H0 L V H O) (hLi : L i = false) (hs : Sub H H2) (hsp : spO[i]? = some s) (hv : s.holds H2 v) (hvn : s.holdsN H0 H2 v)
    (hn : i ≠ 0 ∧ i ≠ 65 ∧ i ≠ 66 ∧ ∀ x ∈ tabO, x.2.1 ≠ i) : IOn H0 (setL L i) (setV V i v) H2 O :=
  ⟨IO_step hI.1 hLi hs hsp hv hn, hI.2.1.trans hs, holdsN_set hI.2.2 hs hsp hvn⟩
theorem IOn_map {H0 : PH} {L : Nat → Bool} {V : Nat → Value} {H O : PH} {b : Nat} (hI : IOn H0 L V H O) (hL : L 0 = false) : IOn H0 (setL L 0) (setV V 0 (.map (some b))) H (ins O b (.map #[] 0)) :=
  ⟨IO_map hI.1 hL, hI.2.1, holdsN_set hI.2.2 (Sub.refl _) (s := .skip) rfl trivial⟩
theorem skipO : ∀ y ∈ tabO, spO[y.2.1]? = some .skip := by
  intro y hy
  simp only [tabO, List.mem_cons, List.not_mem_nil, or_false] at hy
  rcases hy with rfl | rfl | rfl | rfl | rfl | rfl | rfl | rfl | rfl | rfl | rfl | rfl
  all_goals rfl
theorem IOn_ins {H0 : PH} {L : Nat → Bool} {V : Nat → Value} {H O : PH} {x : Nat × Nat × Nat} (hx : x ∈ tabO) {b : Nat} {es : List MapEntry} {clk : Nat} (hI : IOn H0 L V H O) (hL : L x.2.1 = false) (hsrc : L x.2.2 = true) (h0 : L 0 = true)
    (hV0 : V 0 = .map (some b)) (hO : O b = some (.map ⟨es⟩ clk)) {u : Value} (hu : V x.2.2 = u) : IOn H0 (setL L x.2.1) (setV V x.2.1 undef) H (ins O b (.map ((⟨es⟩ : Array MapEntry).push { key := .int .i64 x.1, val := u, born := clk }) (clk + 1))) :=
  ⟨IO_ins hx hI.1 hL hsrc h0 hV0 hO hu, hI.2.1, holdsN_set hI.2.2 (Sub.refl _) (s := .skip) (skipO x hx) trivial⟩
theorem IOn_same {H0 : PH} {L : Nat → Bool} {V : Nat → Value} {H O : PH} {i : Nat} {v : Value} (hI : IOn H0 L V H O) (hLi : L i = false) (h0 : L 0 = true) (hi : i = 65 ∨ i = 66) (hv : ∀ b, V 0 = .map (some b) → v = .map (some b)) : IOn H0 (setL L i) (setV V i v) H O :=
  ⟨IO_same hI.1 hLi h0 hi hv, hI.2.1, holdsN_set hI.2.2 (Sub.refl _) (s := .skip) (by rcases hi with rfl | rfl <;> rfl) trivial⟩
/-- What is looked up in the map of the operators: all new. -/
def OpsN (H0 H : PH) (r : Value) : Prop := ∃ b es clk, r = .map (some b) ∧ H b = some (.map ⟨es⟩ clk) ∧ (∀ k, 1 ≤ k → k ≤ 12 → ∃ j u, Instr.findNow (.int .i64) (.int .i64 (k : Nat)) es 0 = some (some (j, u)) ∧ MatN H0 H u (opM k)) ∧ ∀ n : Int, n < 1 ∨ 12 < n → Instr.findNow (.int .i64) (.int .i64 n) es 0 = some none
theorem c75n (H : PH) : Cl Tryz.prog 46 [] H emp fun r H' _ => OpsN H H' r := by
  refine Cl.repart (Q := fun r H' M' => ∃ b es clk, r = .map (some b) ∧ M' b = some (.map ⟨es⟩ clk) ∧ (∀ k, 1 ≤ k → k ≤ 12 → ∃ j u, Instr.findNow (.int .i64) (.int .i64 (k : Nat)) es 0 = some (some (j, u)) ∧ MatN H H' u (opM k)) ∧ ∀ n : Int, n < 1 ∨ 12 < n → Instr.findNow (.int .i64) (.int .i64 n) es 0 = some none) ?_ fun r H' M' _ hd ⟨b, es, clk, h1, h2, h3, h4⟩ => ⟨_, _, .one hd h2, b, es, clk, h1, ins_same _ _ _, fun k k1 k2 => by
    obtain ⟨j, u, h5, h6⟩ := h3 k k1 k2
    exact ⟨j, u, h5, h6.up (sub_ins _ _ ((hd b).resolve_right (by rw [h2]; simp)))⟩, h4⟩
  refine Cl_of (pol := polO) Γok Tryz.func46 (by kernel_rfl) rfl ?_
  conv => whnf
  refine (c140 1 _).val fun H1 s1 => ?_
  conv => whnf
  intro b2
  conv => whnf
  refine (c141 rootN _).val fun H2 s2 => ?_
  conv => whnf
  intro b4
  conv => whnf
  refine W_free (pol := polO) Γok mixes 69 (by kernel_rfl) rfl (IOn H) ⟨⟨fun i s _ h => (by cases h), fun x _ h => (by cases h), fun h => (by cases h), fun _ => ⟨fun _ _ => rfl, rfl, rfl⟩⟩, s1.trans s2, fun i s _ h => (by cases h)⟩ ?_ ?_
  · intro i o ho L V H' O' hI hLi hsee
    have hi : i < 67 := (List.getElem?_eq_some_iff.1 ho).1
    have get : ∀ (j : Nat) s, spO[j]? = some s → seesB _ o j = true → s.holds H' (V j) := fun j s hj h => hI.1.1 j s hj (hsee j h)
    obtain rfl | rfl | rfl | rfl | rfl | rfl | rfl | rfl | rfl | rfl | rfl | rfl | rfl | rfl | rfl | rfl | rfl | rfl | rfl | rfl | rfl | rfl | rfl | rfl | rfl | rfl | rfl | rfl | rfl | rfl | rfl | rfl | rfl | rfl | rfl | rfl | rfl | rfl | rfl | rfl | rfl | rfl | rfl | rfl | rfl | rfl | rfl | rfl | rfl | rfl | rfl | rfl | rfl | rfl | rfl | rfl | rfl | rfl | rfl | rfl | rfl | rfl | rfl | rfl | rfl | rfl | rfl : i = 0 ∨ i = 1 ∨ i = 2 ∨ i = 3 ∨ i = 4 ∨ i = 5 ∨ i = 6 ∨ i = 7 ∨ i = 8 ∨ i = 9 ∨ i = 10 ∨ i = 11 ∨ i = 12 ∨ i = 13 ∨ i = 14 ∨ i = 15 ∨ i = 16 ∨ i = 17 ∨ i = 18 ∨ i = 19 ∨ i = 20 ∨ i = 21 ∨ i = 22 ∨ i = 23 ∨ i = 24 ∨ i = 25 ∨ i = 26 ∨ i = 27 ∨ i = 28 ∨ i = 29 ∨ i = 30 ∨ i = 31 ∨ i = 32 ∨ i = 33 ∨ i = 34 ∨ i = 35 ∨ i = 36 ∨ i = 37 ∨ i = 38 ∨ i = 39 ∨ i = 40 ∨ i = 41 ∨ i = 42 ∨ i = 43 ∨ i = 44 ∨ i = 45 ∨ i = 46 ∨ i = 47 ∨ i = 48 ∨ i = 49 ∨ i = 50 ∨ i = 51 ∨ i = 52 ∨ i = 53 ∨ i = 54 ∨ i = 55 ∨ i = 56 ∨ i = 57 ∨ i = 58 ∨ i = 59 ∨ i = 60 ∨ i = 61 ∨ i = 62 ∨ i = 63 ∨ i = 64 ∨ i = 65 ∨ i = 66 := by omega
    · -- 0
      cases ho
      conv => whnf
      intro b hb hO
      exact ⟨⟨_, rfl⟩, _, rfl, IOn_map hI hLi⟩
    · -- 1
      cases ho
      conv => whnf
      refine (c133m tX 2 (by decide) (by decide) _ (.func 101) #[] #[] (fun k hk => ⟨101, [], [], rfl, fun H4 _ => c142b k hk H4⟩)).use fun u H3 s3 hq => ?_
      obtain ⟨_, hq⟩ := hq
      conv => whnf
      exact ⟨⟨_, rfl⟩, _, rfl, IOn_step hI hLi s3 rfl hq.mat (hq.base hI.2.1) (by decide)⟩
    · -- 2
      cases ho
      have h0 := hsee 0 (by kernel_rfl)
      have hs := hsee 1 (by kernel_rfl)
      obtain ⟨b, es, clk, hV0, hO, hF, _⟩ := hI.1.2.2.1 h0
      conv => whnf
      unfold enterK
      refine ⟨.i64, 1, b, ⟨es⟩, clk, rfl, hV0, hO, (hF 1 0).1 (keyVal_none (x := (1, 2, 1)) (by decide) hLi), ?_⟩
      conv => whnf
      exact ⟨⟨_, rfl⟩, _, rfl, IOn_ins (x := (1, 2, 1)) (by decide) hI hLi hs h0 hV0 hO rfl⟩
    · -- 3
      cases ho
      conv => whnf
      exact ⟨⟨_, rfl⟩, _, rfl, IOn_step hI hLi (Sub.refl _) rfl rfl trivial (by decide)⟩
    · -- 4
      cases ho
      conv => whnf
      exact ⟨⟨_, rfl⟩, _, rfl, IOn_step hI hLi (Sub.refl _) rfl rfl trivial (by decide)⟩
    · -- 5
      cases ho
      have h := get 4 _ rfl (by kernel_rfl)
      change V 4 = _ at h
      conv => whnf
      rw [h]
      conv => whnf
      refine (c54 6 _).val fun H3 s3 => ?_
      conv => whnf
      exact ⟨⟨_, rfl⟩, _, rfl, IOn_step hI hLi s3 rfl rfl trivial (by decide)⟩
    · -- 6
      cases ho
      conv => whnf
      have h3 := get 3 _ rfl (by kernel_rfl)
      change V 3 = _ at h3
      have h5 := get 5 _ rfl (by kernel_rfl)
      change V 5 = _ at h5
      rw [h3]
      conv => whnf
      rw [h5]
      conv => whnf
      intro b hb hO
      conv => whnf
      exact ⟨⟨_, rfl⟩, _, rfl, IOn_step hI hLi (sub_ins _ _ hb) rfl (pair_num (ins_same _ _ _)) (numN_new hI.2.1 hb rfl rfl) (by decide)⟩
    · -- 7
      cases ho
      conv => whnf
      exact ⟨⟨_, rfl⟩, _, rfl, IOn_step hI hLi (Sub.refl _) rfl rfl trivial (by decide)⟩
    · -- 8
      cases ho
      have h := get 7 _ rfl (by kernel_rfl)
      change V 7 = _ at h
      conv => whnf
      rw [h]
      conv => whnf
      refine (c54 2 _).val fun H3 s3 => ?_
      conv => whnf
      exact ⟨⟨_, rfl⟩, _, rfl, IOn_step hI hLi s3 rfl rfl trivial (by decide)⟩
    · -- 9
      cases ho
      conv => whnf
      exact ⟨⟨_, rfl⟩, _, rfl, IOn_step hI hLi (Sub.refl _) rfl rfl trivial (by decide)⟩
    · -- 10
      cases ho
      conv => whnf
      have h8 := get 8 _ rfl (by kernel_rfl)
      change V 8 = _ at h8
      have h9 := get 9 _ rfl (by kernel_rfl)
      change V 9 = _ at h9
      rw [h8]
      conv => whnf
      rw [h9]
      conv => whnf
      intro b hb hO
      conv => whnf
      exact ⟨⟨_, rfl⟩, _, rfl, IOn_step hI hLi (sub_ins _ _ hb) rfl (pair_num (ins_same _ _ _)) (numN_new hI.2.1 hb rfl rfl) (by decide)⟩
    · -- 11
      cases ho
      have h6 := get 6 _ rfl (by kernel_rfl)
      change NumH _ (V 6) _ at h6
      obtain ⟨base6, cap6, e6, _⟩ := id h6
      have h10 := get 10 _ rfl (by kernel_rfl)
      change NumH _ (V 10) _ at h10
      obtain ⟨base10, cap10, e10, _⟩ := id h10
      conv => whnf
      rw [e6]
      conv => whnf
      rw [e10]
      conv => whnf
      intro b hb hO
      conv => whnf
      have f6 := h6
      rw [e6] at f6
      have f10 := h10
      rw [e10] at f10
      refine ⟨⟨_, rfl⟩, _, rfl, IOn_step hI hLi (sub_ins _ _ hb) rfl (mat2 (ins_same _ _ _) ?_ ?_) ?_ (by decide)⟩
      · exact f6.up (sub_ins _ _ hb)
      · exact f10.up (sub_ins _ _ hb)
      · have g6 := hI.2.2 6 _ rfl (hsee 6 (by kernel_rfl))
        change NumN _ _ (V 6) _ at g6
        rw [e6] at g6
        have g10 := hI.2.2 10 _ rfl (hsee 10 (by kernel_rfl))
        change NumN _ _ (V 10) _ at g10
        rw [e10] at g10
        exact mat2N hI.2.1 hb g6 g10 rfl rfl fun e => absurd (congrArg vInts e) (by decide +kernel)
    · -- 12
      cases ho
      have h0 := hsee 0 (by kernel_rfl)
      have hs := hsee 11 (by kernel_rfl)
      obtain ⟨b, es, clk, hV0, hO, hF, _⟩ := hI.1.2.2.1 h0
      conv => whnf
      unfold enterK
      refine ⟨.i64, 2, b, ⟨es⟩, clk, rfl, hV0, hO, (hF 2 0).1 (keyVal_none (x := (2, 12, 11)) (by decide) hLi), ?_⟩
      conv => whnf
      exact ⟨⟨_, rfl⟩, _, rfl, IOn_ins (x := (2, 12, 11)) (by decide) hI hLi hs h0 hV0 hO rfl⟩
    · -- 13
      cases ho
      conv => whnf
      refine (c74 _).val fun H3 s3 => ?_
      conv => whnf
      exact ⟨⟨_, rfl⟩, _, rfl, IOn_step hI hLi s3 rfl rfl trivial (by decide)⟩
    · -- 14
      cases ho
      conv => whnf
      exact ⟨⟨_, rfl⟩, _, rfl, IOn_step hI hLi (Sub.refl _) rfl rfl trivial (by decide)⟩
    · -- 15
      cases ho
      have h := get 14 _ rfl (by kernel_rfl)
      change V 14 = _ at h
      conv => whnf
      rw [h]
      conv => whnf
      refine (c54 4 _).val fun H3 s3 => ?_
      conv => whnf
      exact ⟨⟨_, rfl⟩, _, rfl, IOn_step hI hLi s3 rfl rfl trivial (by decide)⟩
    · -- 16
      cases ho
      conv => whnf
      have h13 := get 13 _ rfl (by kernel_rfl)
      change V 13 = _ at h13
      have h15 := get 15 _ rfl (by kernel_rfl)
      change V 15 = _ at h15
      rw [h13]
      conv => whnf
      rw [h15]
      conv => whnf
      intro b hb hO
      conv => whnf
      exact ⟨⟨_, rfl⟩, _, rfl, IOn_step hI hLi (sub_ins _ _ hb) rfl (pair_num (ins_same _ _ _)) (numN_new hI.2.1 hb rfl rfl) (by decide)⟩
    · -- 17
      cases ho
      have h := get 16 _ rfl (by kernel_rfl)
      conv => whnf
      refine (c143m _ (by decide) _ _ h).use fun u H3 s3 hq => ?_
      obtain ⟨_, hq⟩ := hq
      conv => whnf
      exact ⟨⟨_, rfl⟩, _, rfl, IOn_step hI hLi s3 rfl hq.mat (hq.base hI.2.1) (by decide)⟩
    · -- 18
      cases ho
      have h0 := hsee 0 (by kernel_rfl)
      have hs := hsee 17 (by kernel_rfl)
      obtain ⟨b, es, clk, hV0, hO, hF, _⟩ := hI.1.2.2.1 h0
      conv => whnf
      unfold enterK
      refine ⟨.i64, 3, b, ⟨es⟩, clk, rfl, hV0, hO, (hF 3 0).1 (keyVal_none (x := (3, 18, 17)) (by decide) hLi), ?_⟩
      conv => whnf
      exact ⟨⟨_, rfl⟩, _, rfl, IOn_ins (x := (3, 18, 17)) (by decide) hI hLi hs h0 hV0 hO rfl⟩
    · -- 19
      cases ho
      conv => whnf
      exact ⟨⟨_, rfl⟩, _, rfl, IOn_step hI hLi (Sub.refl _) rfl rfl trivial (by decide)⟩
    · -- 20
      cases ho
      conv => whnf
      exact ⟨⟨_, rfl⟩, _, rfl, IOn_step hI hLi (Sub.refl _) rfl rfl trivial (by decide)⟩
    · -- 21
      cases ho
      conv => whnf
      have h19 := get 19 _ rfl (by kernel_rfl)
      change V 19 = _ at h19
      have h20 := get 20 _ rfl (by kernel_rfl)
      change V 20 = _ at h20
      rw [h19]
      conv => whnf
      rw [h20]
      conv => whnf
      intro b hb hO
      conv => whnf
      exact ⟨⟨_, rfl⟩, _, rfl, IOn_step hI hLi (sub_ins _ _ hb) rfl (pair_num (ins_same _ _ _)) (numN_new hI.2.1 hb rfl rfl) (by decide)⟩
    · -- 22
      cases ho
      conv => whnf
      exact ⟨⟨_, rfl⟩, _, rfl, IOn_step hI hLi (Sub.refl _) rfl rfl trivial (by decide)⟩
    · -- 23
      cases ho
      conv => whnf
      exact ⟨⟨_, rfl⟩, _, rfl, IOn_step hI hLi (Sub.refl _) rfl rfl trivial (by decide)⟩
    · -- 24
      cases ho
      conv => whnf
      have h22 := get 22 _ rfl (by kernel_rfl)
      change V 22 = _ at h22
      have h23 := get 23 _ rfl (by kernel_rfl)
      change V 23 = _ at h23
      rw [h22]
      conv => whnf
      rw [h23]
      conv => whnf
      intro b hb hO
      conv => whnf
      exact ⟨⟨_, rfl⟩, _, rfl, IOn_step hI hLi (sub_ins _ _ hb) rfl (pair_num (ins_same _ _ _)) (numN_new hI.2.1 hb rfl rfl) (by decide)⟩
    · -- 25
      cases ho
      have h21 := get 21 _ rfl (by kernel_rfl)
      change NumH _ (V 21) _ at h21
      obtain ⟨base21, cap21, e21, _⟩ := id h21
      have h24 := get 24 _ rfl (by kernel_rfl)
      change NumH _ (V 24) _ at h24
      obtain ⟨base24, cap24, e24, _⟩ := id h24
      conv => whnf
      rw [e21]
      conv => whnf
      rw [e24]
      conv => whnf
      intro b hb hO
      conv => whnf
      have f21 := h21
      rw [e21] at f21
      have f24 := h24
      rw [e24] at f24
      refine ⟨⟨_, rfl⟩, _, rfl, IOn_step hI hLi (sub_ins _ _ hb) rfl (mat2 (ins_same _ _ _) ?_ ?_) ?_ (by decide)⟩
      · exact f21.up (sub_ins _ _ hb)
      · exact f24.up (sub_ins _ _ hb)
      · have g21 := hI.2.2 21 _ rfl (hsee 21 (by kernel_rfl))
        change NumN _ _ (V 21) _ at g21
        rw [e21] at g21
        have g24 := hI.2.2 24 _ rfl (hsee 24 (by kernel_rfl))
        change NumN _ _ (V 24) _ at g24
        rw [e24] at g24
        exact mat2N hI.2.1 hb g21 g24 rfl rfl fun e => absurd (congrArg vInts e) (by decide +kernel)
    · -- 26
      cases ho
      have h0 := hsee 0 (by kernel_rfl)
      have hs := hsee 25 (by kernel_rfl)
      obtain ⟨b, es, clk, hV0, hO, hF, _⟩ := hI.1.2.2.1 h0
      conv => whnf
      unfold enterK
      refine ⟨.i64, 4, b, ⟨es⟩, clk, rfl, hV0, hO, (hF 4 0).1 (keyVal_none (x := (4, 26, 25)) (by decide) hLi), ?_⟩
      conv => whnf
      exact ⟨⟨_, rfl⟩, _, rfl, IOn_ins (x := (4, 26, 25)) (by decide) hI hLi hs h0 hV0 hO rfl⟩
    · -- 27
      cases ho
      conv => whnf
      refine (c74 _).val fun H3 s3 => ?_
      conv => whnf
      exact ⟨⟨_, rfl⟩, _, rfl, IOn_step hI hLi s3 rfl rfl trivial (by decide)⟩
    · -- 28
      cases ho
      conv => whnf
      exact ⟨⟨_, rfl⟩, _, rfl, IOn_step hI hLi (Sub.refl _) rfl rfl trivial (by decide)⟩
    · -- 29
      cases ho
      have h := get 28 _ rfl (by kernel_rfl)
      change V 28 = _ at h
      conv => whnf
      rw [h]
      conv => whnf
      refine (c54 2 _).val fun H3 s3 => ?_
      conv => whnf
      exact ⟨⟨_, rfl⟩, _, rfl, IOn_step hI hLi s3 rfl rfl trivial (by decide)⟩
    · -- 30
      cases ho
      conv => whnf
      have h27 := get 27 _ rfl (by kernel_rfl)
      change V 27 = _ at h27
      have h29 := get 29 _ rfl (by kernel_rfl)
      change V 29 = _ at h29
      rw [h27]
      conv => whnf
      rw [h29]
      conv => whnf
      intro b hb hO
      conv => whnf
      exact ⟨⟨_, rfl⟩, _, rfl, IOn_step hI hLi (sub_ins _ _ hb) rfl (pair_num (ins_same _ _ _)) (numN_new hI.2.1 hb rfl rfl) (by decide)⟩
    · -- 31
      cases ho
      have h := get 30 _ rfl (by kernel_rfl)
      conv => whnf
      refine (c143m _ (by decide) _ _ h).use fun u H3 s3 hq => ?_
      obtain ⟨_, hq⟩ := hq
      conv => whnf
      exact ⟨⟨_, rfl⟩, _, rfl, IOn_step hI hLi s3 rfl hq.mat (hq.base hI.2.1) (by decide)⟩
    · -- 32
      cases ho
      have h0 := hsee 0 (by kernel_rfl)
      have hs := hsee 31 (by kernel_rfl)
      obtain ⟨b, es, clk, hV0, hO, hF, _⟩ := hI.1.2.2.1 h0
      conv => whnf
      unfold enterK
      refine ⟨.i64, 5, b, ⟨es⟩, clk, rfl, hV0, hO, (hF 5 0).1 (keyVal_none (x := (5, 32, 31)) (by decide) hLi), ?_⟩
      conv => whnf
      exact ⟨⟨_, rfl⟩, _, rfl, IOn_ins (x := (5, 32, 31)) (by decide) hI hLi hs h0 hV0 hO rfl⟩
    · -- 33
      cases ho
      conv => whnf
      refine (c74 _).val fun H3 s3 => ?_
      conv => whnf
      exact ⟨⟨_, rfl⟩, _, rfl, IOn_step hI hLi s3 rfl rfl trivial (by decide)⟩
    · -- 34
      cases ho
      conv => whnf
      exact ⟨⟨_, rfl⟩, _, rfl, IOn_step hI hLi (Sub.refl _) rfl rfl trivial (by decide)⟩
    · -- 35
      cases ho
      have h := get 34 _ rfl (by kernel_rfl)
      change V 34 = _ at h
      conv => whnf
      rw [h]
      conv => whnf
      refine (c54 6 _).val fun H3 s3 => ?_
      conv => whnf
      exact ⟨⟨_, rfl⟩, _, rfl, IOn_step hI hLi s3 rfl rfl trivial (by decide)⟩
    · -- 36
      cases ho
      conv => whnf
      have h33 := get 33 _ rfl (by kernel_rfl)
      change V 33 = _ at h33
      have h35 := get 35 _ rfl (by kernel_rfl)
      change V 35 = _ at h35
      rw [h33]
      conv => whnf
      rw [h35]
      conv => whnf
      intro b hb hO
      conv => whnf
      exact ⟨⟨_, rfl⟩, _, rfl, IOn_step hI hLi (sub_ins _ _ hb) rfl (pair_num (ins_same _ _ _)) (numN_new hI.2.1 hb rfl rfl) (by decide)⟩
    · -- 37
      cases ho
      have h := get 36 _ rfl (by kernel_rfl)
      conv => whnf
      refine (c143m _ (by decide) _ _ h).use fun u H3 s3 hq => ?_
      obtain ⟨_, hq⟩ := hq
      conv => whnf
      exact ⟨⟨_, rfl⟩, _, rfl, IOn_step hI hLi s3 rfl hq.mat (hq.base hI.2.1) (by decide)⟩
    · -- 38
      cases ho
      have h0 := hsee 0 (by kernel_rfl)
      have hs := hsee 37 (by kernel_rfl)
      obtain ⟨b, es, clk, hV0, hO, hF, _⟩ := hI.1.2.2.1 h0
      conv => whnf
      unfold enterK
      refine ⟨.i64, 6, b, ⟨es⟩, clk, rfl, hV0, hO, (hF 6 0).1 (keyVal_none (x := (6, 38, 37)) (by decide) hLi), ?_⟩
      conv => whnf
      exact ⟨⟨_, rfl⟩, _, rfl, IOn_ins (x := (6, 38, 37)) (by decide) hI hLi hs h0 hV0 hO rfl⟩
    · -- 39
      cases ho
      conv => whnf
      refine (c74 _).val fun H3 s3 => ?_
      conv => whnf
      exact ⟨⟨_, rfl⟩, _, rfl, IOn_step hI hLi s3 rfl rfl trivial (by decide)⟩
    · -- 40
      cases ho
      conv => whnf
      exact ⟨⟨_, rfl⟩, _, rfl, IOn_step hI hLi (Sub.refl _) rfl rfl trivial (by decide)⟩
    · -- 41
      cases ho
      have h := get 40 _ rfl (by kernel_rfl)
      change V 40 = _ at h
      conv => whnf
      rw [h]
      conv => whnf
      refine (c54 1 _).val fun H3 s3 => ?_
      conv => whnf
      exact ⟨⟨_, rfl⟩, _, rfl, IOn_step hI hLi s3 rfl rfl trivial (by decide)⟩
    · -- 42
      cases ho
      conv => whnf
      have h39 := get 39 _ rfl (by kernel_rfl)
      change V 39 = _ at h39
      have h41 := get 41 _ rfl (by kernel_rfl)
      change V 41 = _ at h41
      rw [h39]
      conv => whnf
      rw [h41]
      conv => whnf
      intro b hb hO
      conv => whnf
      exact ⟨⟨_, rfl⟩, _, rfl, IOn_step hI hLi (sub_ins _ _ hb) rfl (pair_num (ins_same _ _ _)) (numN_new hI.2.1 hb rfl rfl) (by decide)⟩
    · -- 43
      cases ho
      have h := get 42 _ rfl (by kernel_rfl)
      conv => whnf
      refine (c143m _ (by decide) _ _ h).use fun u H3 s3 hq => ?_
      obtain ⟨_, hq⟩ := hq
      conv => whnf
      exact ⟨⟨_, rfl⟩, _, rfl, IOn_step hI hLi s3 rfl hq.mat (hq.base hI.2.1) (by decide)⟩
    · -- 44
      cases ho
      have h0 := hsee 0 (by kernel_rfl)
      have hs := hsee 43 (by kernel_rfl)
      obtain ⟨b, es, clk, hV0, hO, hF, _⟩ := hI.1.2.2.1 h0
      conv => whnf
      unfold enterK
      refine ⟨.i64, 7, b, ⟨es⟩, clk, rfl, hV0, hO, (hF 7 0).1 (keyVal_none (x := (7, 44, 43)) (by decide) hLi), ?_⟩
      conv => whnf
      exact ⟨⟨_, rfl⟩, _, rfl, IOn_ins (x := (7, 44, 43)) (by decide) hI hLi hs h0 hV0 hO rfl⟩
    · -- 45
      cases ho
      conv => whnf
      refine (c74 _).val fun H3 s3 => ?_
      conv => whnf
      exact ⟨⟨_, rfl⟩, _, rfl, IOn_step hI hLi s3 rfl rfl trivial (by decide)⟩
    · -- 46
      cases ho
      conv => whnf
      exact ⟨⟨_, rfl⟩, _, rfl, IOn_step hI hLi (Sub.refl _) rfl rfl trivial (by decide)⟩
    · -- 47
      cases ho
      have h := get 46 _ rfl (by kernel_rfl)
      change V 46 = _ at h
      conv => whnf
      rw [h]
      conv => whnf
      refine (c54 7 _).val fun H3 s3 => ?_
      conv => whnf
      exact ⟨⟨_, rfl⟩, _, rfl, IOn_step hI hLi s3 rfl rfl trivial (by decide)⟩
    · -- 48
      cases ho
      conv => whnf
      have h45 := get 45 _ rfl (by kernel_rfl)
      change V 45 = _ at h45
      have h47 := get 47 _ rfl (by kernel_rfl)
      change V 47 = _ at h47
      rw [h45]
      conv => whnf
      rw [h47]
      conv => whnf
      intro b hb hO
      conv => whnf
      exact ⟨⟨_, rfl⟩, _, rfl, IOn_step hI hLi (sub_ins _ _ hb) rfl (pair_num (ins_same _ _ _)) (numN_new hI.2.1 hb rfl rfl) (by decide)⟩
    · -- 49
      cases ho
      have h := get 48 _ rfl (by kernel_rfl)
      conv => whnf
      refine (c143m _ (by decide) _ _ h).use fun u H3 s3 hq => ?_
      obtain ⟨_, hq⟩ := hq
      conv => whnf
      exact ⟨⟨_, rfl⟩, _, rfl, IOn_step hI hLi s3 rfl hq.mat (hq.base hI.2.1) (by decide)⟩
    · -- 50
      cases ho
      have h0 := hsee 0 (by kernel_rfl)
      have hs := hsee 49 (by kernel_rfl)
      obtain ⟨b, es, clk, hV0, hO, hF, _⟩ := hI.1.2.2.1 h0
      conv => whnf
      unfold enterK
      refine ⟨.i64, 8, b, ⟨es⟩, clk, rfl, hV0, hO, (hF 8 0).1 (keyVal_none (x := (8, 50, 49)) (by decide) hLi), ?_⟩
      conv => whnf
      exact ⟨⟨_, rfl⟩, _, rfl, IOn_ins (x := (8, 50, 49)) (by decide) hI hLi hs h0 hV0 hO rfl⟩
    · -- 51
      cases ho
      conv => whnf
      refine (c133m tCX 4 (by decide) (by decide) _ (.func 104) #[] #[] (fun k hk => ⟨104, [], [], rfl, fun H4 _ => c144 k hk H4⟩)).use fun u H3 s3 hq => ?_
      obtain ⟨_, hq⟩ := hq
      conv => whnf
      exact ⟨⟨_, rfl⟩, _, rfl, IOn_step hI hLi s3 rfl hq.mat (hq.base hI.2.1) (by decide)⟩
    · -- 52
      cases ho
      have h0 := hsee 0 (by kernel_rfl)
      have hs := hsee 51 (by kernel_rfl)
      obtain ⟨b, es, clk, hV0, hO, hF, _⟩ := hI.1.2.2.1 h0
      conv => whnf
      unfold enterK
      refine ⟨.i64, 9, b, ⟨es⟩, clk, rfl, hV0, hO, (hF 9 0).1 (keyVal_none (x := (9, 52, 51)) (by decide) hLi), ?_⟩
      conv => whnf
      exact ⟨⟨_, rfl⟩, _, rfl, IOn_ins (x := (9, 52, 51)) (by decide) hI hLi hs h0 hV0 hO rfl⟩
    · -- 53
      cases ho
      conv => whnf
      refine (c74 _).val fun H3 s3 => ?_
      conv => whnf
      exact ⟨⟨_, rfl⟩, _, rfl, IOn_step hI hLi s3 rfl rfl trivial (by decide)⟩
    · -- 54
      cases ho
      conv => whnf
      refine (c74 _).val fun H3 s3 => ?_
      conv => whnf
      exact ⟨⟨_, rfl⟩, _, rfl, IOn_step hI hLi s3 rfl rfl trivial (by decide)⟩
    · -- 55
      cases ho
      conv => whnf
      refine (c74 _).val fun H3 s3 => ?_
      conv => whnf
      exact ⟨⟨_, rfl⟩, _, rfl, IOn_step hI hLi s3 rfl rfl trivial (by decide)⟩
    · -- 56
      cases ho
      conv => whnf
      exact ⟨⟨_, rfl⟩, _, rfl, IOn_step hI hLi (Sub.refl _) rfl rfl trivial (by decide)⟩
    · -- 57
      cases ho
      have h := get 56 _ rfl (by kernel_rfl)
      change V 56 = _ at h
      conv => whnf
      rw [h]
      conv => whnf
      refine (c54 4 _).val fun H3 s3 => ?_
      conv => whnf
      exact ⟨⟨_, rfl⟩, _, rfl, IOn_step hI hLi s3 rfl rfl trivial (by decide)⟩
    · -- 58
      cases ho
      conv => whnf
      have h53 := get 53 _ rfl (by kernel_rfl)
      change V 53 = _ at h53
      have h54 := get 54 _ rfl (by kernel_rfl)
      change V 54 = _ at h54
      have h55 := get 55 _ rfl (by kernel_rfl)
      change V 55 = _ at h55
      have h57 := get 57 _ rfl (by kernel_rfl)
      change V 57 = _ at h57
      rw [h53]
      conv => whnf
      rw [h54]
      conv => whnf
      rw [h55]
      conv => whnf
      rw [h57]
      conv => whnf
      intro b hb hO
      conv => whnf
      exact ⟨⟨_, rfl⟩, _, rfl, IOn_step hI hLi (sub_ins _ _ hb) rfl (quad_num (ins_same _ _ _)) (numN_new hI.2.1 hb rfl rfl) (by decide)⟩
    · -- 59
      cases ho
      have h := get 58 _ rfl (by kernel_rfl)
      conv => whnf
      refine (c143m _ (by decide) _ _ h).use fun u H3 s3 hq => ?_
      obtain ⟨_, hq⟩ := hq
      conv => whnf
      exact ⟨⟨_, rfl⟩, _, rfl, IOn_step hI hLi s3 rfl hq.mat (hq.base hI.2.1) (by decide)⟩
    · -- 60
      cases ho
      have h0 := hsee 0 (by kernel_rfl)
      have hs := hsee 59 (by kernel_rfl)
      obtain ⟨b, es, clk, hV0, hO, hF, _⟩ := hI.1.2.2.1 h0
      conv => whnf
      unfold enterK
      refine ⟨.i64, 10, b, ⟨es⟩, clk, rfl, hV0, hO, (hF 10 0).1 (keyVal_none (x := (10, 60, 59)) (by decide) hLi), ?_⟩
      conv => whnf
      exact ⟨⟨_, rfl⟩, _, rfl, IOn_ins (x := (10, 60, 59)) (by decide) hI hLi hs h0 hV0 hO rfl⟩
    · -- 61
      cases ho
      conv => whnf
      refine (c133m tSwap 4 (by decide) (by decide) _ (.func 105) #[] #[] (fun k hk => ⟨105, [], [], rfl, fun H4 _ => c145 k hk H4⟩)).use fun u H3 s3 hq => ?_
      obtain ⟨_, hq⟩ := hq
      conv => whnf
      exact ⟨⟨_, rfl⟩, _, rfl, IOn_step hI hLi s3 rfl hq.mat (hq.base hI.2.1) (by decide)⟩
    · -- 62
      cases ho
      have h0 := hsee 0 (by kernel_rfl)
      have hs := hsee 61 (by kernel_rfl)
      obtain ⟨b, es, clk, hV0, hO, hF, _⟩ := hI.1.2.2.1 h0
      conv => whnf
      unfold enterK
      refine ⟨.i64, 11, b, ⟨es⟩, clk, rfl, hV0, hO, (hF 11 0).1 (keyVal_none (x := (11, 62, 61)) (by decide) hLi), ?_⟩
      conv => whnf
      exact ⟨⟨_, rfl⟩, _, rfl, IOn_ins (x := (11, 62, 61)) (by decide) hI hLi hs h0 hV0 hO rfl⟩
    · -- 63
      cases ho
      conv => whnf
      refine (c133m tCCX 8 (by decide) (by decide) _ (.func 106) #[] #[] (fun k hk => ⟨106, [], [], rfl, fun H4 _ => c146 k hk H4⟩)).use fun u H3 s3 hq => ?_
      obtain ⟨_, hq⟩ := hq
      conv => whnf
      exact ⟨⟨_, rfl⟩, _, rfl, IOn_step hI hLi s3 rfl hq.mat (hq.base hI.2.1) (by decide)⟩
    · -- 64
      cases ho
      have h0 := hsee 0 (by kernel_rfl)
      have hs := hsee 63 (by kernel_rfl)
      obtain ⟨b, es, clk, hV0, hO, hF, _⟩ := hI.1.2.2.1 h0
      conv => whnf
      unfold enterK
      refine ⟨.i64, 12, b, ⟨es⟩, clk, rfl, hV0, hO, (hF 12 0).1 (keyVal_none (x := (12, 64, 63)) (by decide) hLi), ?_⟩
      conv => whnf
      exact ⟨⟨_, rfl⟩, _, rfl, IOn_ins (x := (12, 64, 63)) (by decide) hI hLi hs h0 hV0 hO rfl⟩
    · -- 65
      cases ho
      have h0 := hsee 0 (by kernel_rfl)
      conv => whnf
      exact ⟨⟨_, rfl⟩, _, rfl, IOn_same hI hLi h0 (.inl rfl) fun b h => h⟩
    · -- 66
      cases ho
      have h65 := hsee 65 (by kernel_rfl)
      have h0 : L 0 = true := by
        cases e : L 0 with
        | true => rfl
        | false => have := (hI.1.2.2.2 e).2.1; rw [h65] at this; cases this
      obtain ⟨b, es, clk, hV0, _, _, h5, _⟩ := hI.1.2.2.1 h0
      conv => whnf
      exact ⟨⟨_, rfl⟩, _, rfl, IOn_same hI hLi h0 (.inr rfl) fun b' h => (h5 h65).trans (hV0.symm.trans h)⟩
  · intro L V H' O' hI hL
    have hl : ∀ j, j < 67 → L j = true := fun j hj => hL j hj
    obtain ⟨b, es, clk, hV0, hO, hF, _, h66⟩ := hI.1.2.2.1 (hl 0 (by decide))
    conv => whnf
    refine ⟨b, es, clk, h66 (hl 66 (by decide)), hO, fun k k1 k2 => ?_, fun n hn => (hF n 0).1 ?_⟩
    · obtain rfl | rfl | rfl | rfl | rfl | rfl | rfl | rfl | rfl | rfl | rfl | rfl : k = 1 ∨ k = 2 ∨ k = 3 ∨ k = 4 ∨ k = 5 ∨ k = 6 ∨ k = 7 ∨ k = 8 ∨ k = 9 ∨ k = 10 ∨ k = 11 ∨ k = 12 := by omega
      · obtain ⟨j, hj⟩ := (hF 1 0).2 _ (keyVal_some (x := (1, 2, 1)) (by decide) (hl 2 (by decide)))
        exact ⟨j, _, hj, hI.2.2 1 _ rfl (hl 1 (by decide))⟩
      · obtain ⟨j, hj⟩ := (hF 2 0).2 _ (keyVal_some (x := (2, 12, 11)) (by decide) (hl 12 (by decide)))
        exact ⟨j, _, hj, hI.2.2 11 _ rfl (hl 11 (by decide))⟩
      · obtain ⟨j, hj⟩ := (hF 3 0).2 _ (keyVal_some (x := (3, 18, 17)) (by decide) (hl 18 (by decide)))
        exact ⟨j, _, hj, hI.2.2 17 _ rfl (hl 17 (by decide))⟩
      · obtain ⟨j, hj⟩ := (hF 4 0).2 _ (keyVal_some (x := (4, 26, 25)) (by decide) (hl 26 (by decide)))
        exact ⟨j, _, hj, hI.2.2 25 _ rfl (hl 25 (by decide))⟩
      · obtain ⟨j, hj⟩ := (hF 5 0).2 _ (keyVal_some (x := (5, 32, 31)) (by decide) (hl 32 (by decide)))
        exact ⟨j, _, hj, hI.2.2 31 _ rfl (hl 31 (by decide))⟩
      · obtain ⟨j, hj⟩ := (hF 6 0).2 _ (keyVal_some (x := (6, 38, 37)) (by decide) (hl 38 (by decide)))
        exact ⟨j, _, hj, hI.2.2 37 _ rfl (hl 37 (by decide))⟩
      · obtain ⟨j, hj⟩ := (hF 7 0).2 _ (keyVal_some (x := (7, 44, 43)) (by decide) (hl 44 (by decide)))
        exact ⟨j, _, hj, hI.2.2 43 _ rfl (hl 43 (by decide))⟩
      · obtain ⟨j, hj⟩ := (hF 8 0).2 _ (keyVal_some (x := (8, 50, 49)) (by decide) (hl 50 (by decide)))
        exact ⟨j, _, hj, hI.2.2 49 _ rfl (hl 49 (by decide))⟩
      · obtain ⟨j, hj⟩ := (hF 9 0).2 _ (keyVal_some (x := (9, 52, 51)) (by decide) (hl 52 (by decide)))
        exact ⟨j, _, hj, hI.2.2 51 _ rfl (hl 51 (by decide))⟩
      · obtain ⟨j, hj⟩ := (hF 10 0).2 _ (keyVal_some (x := (10, 60, 59)) (by decide) (hl 60 (by decide)))
        exact ⟨j, _, hj, hI.2.2 59 _ rfl (hl 59 (by decide))⟩
      · obtain ⟨j, hj⟩ := (hF 11 0).2 _ (keyVal_some (x := (11, 62, 61)) (by decide) (hl 62 (by decide)))
        exact ⟨j, _, hj, hI.2.2 61 _ rfl (hl 61 (by decide))⟩
      · obtain ⟨j, hj⟩ := (hF 12 0).2 _ (keyVal_some (x := (12, 64, 63)) (by decide) (hl 64 (by decide)))
        exact ⟨j, _, hj, hI.2.2 63 _ rfl (hl 63 (by decide))⟩
    · have h12 : ∀ x ∈ tabO, 1 ≤ x.1 ∧ x.1 ≤ 12 := by decide
      unfold keyVal
      rw [show (tabO.find? fun y => ((y.1 : Int) == n) && L y.2.1) = none from List.find?_eq_none.2 fun y hy h => ?_]
      · rfl
      · simp only [Bool.and_eq_true, beq_iff_eq] at h
        have := h12 y hy
        omega
/-- The operator of a kind, of the program. -/
theorem c21m (k : Int) (H : PH) : Cl Tryz.prog 13 [.int .i64 k] H emp fun r _ M' => OutO M' r (OfR k) := by
  by_cases hk : 1 ≤ k ∧ k ≤ 12
  · have e : OfR k = (opM k.toNat, 0) := if_pos hk
    rw [e]
    refine Cl.mine (Q := fun r u => r = .tuple #[u, .int .i64 0]) ?_
    obtain ⟨n, rfl⟩ := nat_of (a := k) (by omega)
    rw [Int.toNat_natCast]
    refine Cl_of (pol := polL) Γok Tryz.func13 (by kernel_rfl) rfl ?_
    conv => whnf
    refine (c75n _).use fun r H1 s1 hr => ?_
    obtain ⟨_, b, es, clk, rfl, hb, hkk, _⟩ := hr
    obtain ⟨j, u, hj, hu⟩ := hkk n (by omega) (by omega)
    conv => whnf
    unfold lookK
    refine ⟨.i64, n, rfl, .inr ⟨b, ⟨es⟩, clk, _, rfl, .inl hb, hj, ?_⟩⟩
    intro z
    conv => whnf
    exact ⟨u, rfl, hu⟩
  · have e : OfR k = ([], 3) := if_neg hk
    rw [e]
    refine Cl_of (pol := polL) Γok Tryz.func13 (by kernel_rfl) rfl ?_
    conv => whnf
    refine (c75n _).use fun r H1 s1 hr => ?_
    obtain ⟨_, b, es, clk, rfl, hb, _, hno⟩ := hr
    have hj := hno k (by omega)
    conv => whnf
    unfold lookK
    refine ⟨.i64, k, rfl, .inr ⟨b, ⟨es⟩, clk, _, rfl, .inl hb, hj, ?_⟩⟩
    intro z
    conv => whnf
    exact ⟨_, rfl, .inl ⟨rfl, rfl⟩⟩
end Go.Proofs.YtmhnalikebkhjaaGreat


namespace Go.Proofs.YtmhnalikebkhjaaGreat
open Go.Proofs.YtmhnalikebkhjaaGreat.X Go.Proofs.YtmhnalikebkhjaaGreat.X.PH
set_option maxRecDepth 100000

theorem idM_diag : ∀ n, n ≤ 6 → idM (2 ^ n) (2 ^ n) = diagR (fun _ => oneN) (2 ^ n) (2 ^ n) := by
  intro n hn
  obtain rfl | rfl | rfl | rfl | rfl | rfl | rfl : n = 0 ∨ n = 1 ∨ n = 2 ∨ n = 3 ∨ n = 4 ∨ n = 5 ∨ n = 6 := by omega
  all_goals kernel_rfl
theorem c20o (n : Int) (H : PH) : Cl Tryz.prog 47 [.int .i64 n] H emp fun r _ M' => OutO M' r (IdMR n) := by
  by_cases hn : n < 0 ∨ n > 6
  · have e : IdMR n = ([], 3) := if_pos hn
    rw [e]
    refine Cl_of (pol := polL) Γok Tryz.func47 (by kernel_rfl) rfl ?_
    conv => whnf
    refine if_intro (fun h => ?_) (fun h => ?_)
    · conv => whnf
      exact ⟨_, rfl, .inl ⟨rfl, rfl⟩⟩
    have h1 := of_decide_eq_false h
    conv => whnf
    refine if_intro (fun h => ?_) (fun h => ?_)
    · conv => whnf
      exact ⟨_, rfl, .inl ⟨rfl, rfl⟩⟩
    have h2 := of_decide_eq_false h
    omega
  · have e : IdMR n = (diagR (fun _ => oneN) (2 ^ n.toNat) (2 ^ n.toNat), 0) := if_neg hn
    rw [e]
    obtain ⟨n, rfl⟩ := nat_of (a := n) (by omega)
    rw [Int.toNat_natCast, ← idM_diag n (by omega)]
    exact c20m n (by omega) H
theorem c22o (m : Mx) (hlm : m.length < 1000000) (ws : List Int) (hws : ws.length < 100000) (n : Int) (H : PH) (u v : Value) (hu : MatH H u m) (hv : IntsH H v ws) :
    Cl Tryz.prog 9 [u, v, .int .i64 n] H emp fun r _ M' => OutO M' r (resM (onErr m ws n) (onAt m ws) (2 ^ n.toNat) (2 ^ n.toNat)) :=
  (c22 m hlm ws hws n H u v hu hv).mono fun r H' M' _ hr => by
    rcases hr with ⟨h, rfl⟩ | ⟨h, hm⟩
    · rw [resM_bad h]
      exact .bad
    · have hn : ¬ (decide (n < 0) || decide (n > 6)) = true := fun e => by
        unfold onErr at h
        by_cases q : checkMF m ≠ 0
        · rw [if_pos q] at h; exact q h
        · rw [if_neg q, if_pos e] at h; cases h
      have hn6 : n.toNat ≤ 6 := by
        simp at hn
        omega
      have p2 : 2 ^ n.toNat < 1000000 := by
        have : 2 ^ n.toNat ≤ 2 ^ 6 := Nat.pow_le_pow_right (by decide) hn6
        omega
      exact MadeE.out p2 p2 hm h
set_option maxHeartbeats 4000000 in
theorem c3 (kind size : Int) (m : Mx) (ws : List Int) (hlm : m.length < 9223372036854775808) (hlw : ws.length < 9223372036854775808) (H : PH) (u v : Value) (hu : MatH H u m) (hv : IntsH H v ws) :
    Cl Tryz.prog 16 [.int .i64 kind, .int .i64 size, u, v] H emp fun r _ _ => r = .bool true := by
  obtain ⟨base, cap, rfl⟩ := hu.sl
  obtain ⟨wb, wc, rfl, _⟩ := id hv
  refine Cl_of (pol := fun | 27 => .imm | 107 => .own | _ => .loc) Γok Tryz.func16 (by kernel_rfl) rfl ?_
  conv => whnf
  intro b hb _
  conv => whnf
  have s1 := sub_ins H (.cells ⟨[.slice base m.length cap]⟩ 26 (0, 0)) hb
  refine (c13 [m] (by simp) (by simp; omega) _ _ (one_mats (ins_same _ _ _) (hu.up s1))).val fun H1 s2 => ?_
  conv => whnf
  refine if_intro (fun hg => ?_) (fun hg => ?_)
  · conv => whnf
    refine (c14 _).val fun H2 s3 => ?_
    conv => whnf
  conv => whnf
  refine if_intro (fun h9 => ?_) (fun h9 => ?_)
  · conv => whnf
    refine (c14 _).val fun H2 s3 => ?_
    conv => whnf
  have h9 : ws.length ≤ 9 := by
    have := of_decide_eq_false h9
    omega
  have hle := big_le hg
  obtain ⟨hm8, hmr⟩ := hle m (by simp)
  have hu1 := (hu.up s1).up s2
  have hv1 := IntsH.up (IntsH.up hv s1) s2
  clear hu hv
  conv => whnf
  refine (c15' m _ _ hu1 (by omega) (fun r hr => by have := hmr r hr; omega)).use fun p H2 s3 hp => ?_
  obtain ⟨_, hp⟩ := hp
  replace hu1 := hu1.up s3
  replace hv1 := IntsH.up hv1 s3
  conv => whnf
  refine (c16' ws (by omega) _ _ hv1).use fun q H3 s4 hq => ?_
  obtain ⟨_, hq⟩ := hq
  replace hp := hp.up s4
  replace hu1 := hu1.up s4
  replace hv1 := IntsH.up hv1 s4
  conv => whnf
  refine (Cl.outH (x := IdMR size) (c17o size _)).use fun r H4 s5 hr => ?_
  obtain ⟨_, w1, rfl, hw1⟩ := hr
  conv => whnf
  refine (c18 kind _).use fun r H5 s6 hr => ?_
  obtain ⟨_, w2, rfl, hw2⟩ := hr
  conv => whnf
  refine (Cl.outH (c19 m (by omega) ws (by omega) size _ _ _ ((hu1.up s5).up s6) (IntsH.up (IntsH.up hv1 s5) s6))).use fun r H6 s7 hr => ?_
  obtain ⟨_, w3, rfl, hw3⟩ := hr
  have ss := s5.trans (s6.trans s7)
  replace hw1 := hw1.up (s6.trans s7)
  replace hw2 := hw2.up s7
  replace hp := hp.up ss
  replace hq := IntsH.up hq ss
  replace hu1 := hu1.up ss
  replace hv1 := IntsH.up hv1 ss
  conv => whnf
  have k1 : OwnL emp emp [] := Sub.refl _
  refine (k1.call (c20o size _)).mono fun r H8 O8 t1 hr => ?_
  obtain ⟨a1, rfl, k2⟩ := hr
  conv => whnf
  refine (k2.call (c21m kind _)).mono fun r H9 O9 t2 hr => ?_
  obtain ⟨a2, rfl, k3⟩ := hr
  conv => whnf
  refine (k3.call (c22o m (by omega) ws (by omega) size _ _ _ ((hp.up t1).up t2) (IntsH.up (IntsH.up hq t1) t2))).mono fun r H10 O10 t3 hr => ?_
  obtain ⟨a3, rfl, k5⟩ := hr
  have tt := t1.trans (t2.trans t3)
  clear k1 k2 k3
  replace hw1 := hw1.up tt
  replace hw2 := hw2.up tt
  replace hw3 := hw3.up tt
  replace hp := hp.up tt
  replace hq := IntsH.up hq tt
  replace hu1 := hu1.up tt
  replace hv1 := IntsH.up hv1 tt
  have c21k := fun H => c21m kind H
  generalize IdMR size = A1 at *
  generalize OfR kind = A2 at *
  generalize resM (onErr m ws size) (onAt m ws) (2 ^ size.toNat) (2 ^ size.toNat) = A3 at *
  replace k5 : OwnL emp O10 [(a1, A1.1), (a2, A2.1), (a3, A3.1)] := k5
  conv => whnf
  rw [bne_self_eq_false]
  conv => whnf
  rw [bne_self_eq_false]
  conv => whnf
  rw [bne_self_eq_false]
  conv => whnf
  refine (c23L k5 (by simp) hw1).mono fun r H12 O12 t5 hr => ?_
  obtain ⟨o1, rfl⟩ := hr
  replace k5 := k5.up o1
  conv => whnf
  refine (c23L k5 (by simp) (hw2.up t5)).mono fun r H13 O13 t6 hr => ?_
  obtain ⟨o2, rfl⟩ := hr
  replace k5 := k5.up o2
  conv => whnf
  refine (c23L k5 (by simp) ((hw3.up t5).up t6)).mono fun r H14 O14 t7 hr => ?_
  obtain ⟨o3, rfl⟩ := hr
  replace k5 := k5.up o3
  obtain ⟨y1, y2, y3, rfl⟩ := (k5.mem (u := a1) (x := A1.1) (by simp)).sl
  obtain ⟨z1, z2, z3, rfl⟩ := (k5.mem (u := a2) (x := A2.1) (by simp)).sl
  obtain ⟨v1, v2, v3, rfl⟩ := (k5.mem (u := a3) (x := A3.1) (by simp)).sl
  conv => whnf
  intro bs _ hbs
  replace k5 := k5.ins (o := .cells ⟨[.slice y1 y2 y3, .slice z1 z2 z3, .slice v1 v2 v3]⟩ 26 (0, 0)) hbs
  conv => whnf
  refine W_loop (pol := polL) Γok (Nat × PH × PH) (fun i => i.1 ≤ 3 ∧ Sub H14 i.2.1 ∧ OwnL (ins emp bs (.cells ⟨[.slice y1 y2 y3, .slice z1 z2 z3, .slice v1 v2 v3]⟩ 26 (0, 0))) i.2.2 (List.drop i.1 [(.slice y1 y2 y3, A1.1), (.slice z1 z2 z3, A2.1), (.slice v1 v2 v3, A3.1)])) (fun i => 3 - i.1) (fun i => [(109, .v (.int .i64 i.1))]) (fun _ => []) (fun i => i.2.1) (fun i => i.2.2) ⟨(0, H14, _), ⟨by simp, Sub.refl _, k5⟩, rfl, rfl, ?_⟩ ?_
  · conv => whnf
    repeat (refine ⟨rfl, ?_⟩; conv => whnf)
    exact trivial
  · rintro ⟨i, H16, O16⟩ ⟨h1, t9, k6⟩
    dsimp only at h1 t9 k6
    rcases (show i = 0 ∨ i = 1 ∨ i = 2 ∨ i = 3 by omega) with rfl | rfl | rfl | rfl
    · conv => whnf
      refine ⟨[.slice y1 y2 y3], ⟨rfl, rfl, _, _, _, .inr (k6.rem _ _ (ins_same _ _ _)), rfl⟩, ?_⟩
      conv => whnf
      refine (c24L k6).mono fun r H17 O17 t10 k7 => ?_
      conv => whnf
      refine ⟨(1, H17, O17), ⟨by dsimp only; omega, t9.trans t10, k7⟩, by dsimp only; omega, ?_⟩
      conv => whnf
      refine ⟨rfl, rfl, ?_⟩
      conv => whnf
      repeat (refine ⟨rfl, ?_⟩; conv => whnf)
      exact trivial
    · conv => whnf
      refine ⟨[.slice z1 z2 z3], ⟨rfl, rfl, _, _, _, .inr (k6.rem _ _ (ins_same _ _ _)), rfl⟩, ?_⟩
      conv => whnf
      refine (c24L k6).mono fun r H17 O17 t10 k7 => ?_
      conv => whnf
      refine ⟨(2, H17, O17), ⟨by dsimp only; omega, t9.trans t10, k7⟩, by dsimp only; omega, ?_⟩
      conv => whnf
      refine ⟨rfl, rfl, ?_⟩
      conv => whnf
      repeat (refine ⟨rfl, ?_⟩; conv => whnf)
      exact trivial
    · conv => whnf
      refine ⟨[.slice v1 v2 v3], ⟨rfl, rfl, _, _, _, .inr (k6.rem _ _ (ins_same _ _ _)), rfl⟩, ?_⟩
      conv => whnf
      refine (c24L k6).mono fun r H17 O17 t10 k7 => ?_
      conv => whnf
      refine ⟨(3, H17, O17), ⟨by dsimp only; omega, t9.trans t10, k7⟩, by dsimp only; omega, ?_⟩
      conv => whnf
      refine ⟨rfl, rfl, ?_⟩
      conv => whnf
      repeat (refine ⟨rfl, ?_⟩; conv => whnf)
      exact trivial
    conv => whnf
    have t := t5.trans (t6.trans (t7.trans t9))
    have hmr' : ∀ r ∈ m, r.length < 9223372036854775808 := fun r hr => by have := hmr r hr; omega
    have k8 : OwnL emp O16 [] := fun n o hn => by cases hn
    refine (k8.call (c21k _)).mono fun r H18 O18 t11 hr => ?_
    obtain ⟨a4, rfl, k9⟩ := hr
    conv => whnf
    rw [beq_self_eq_true]
    conv => whnf
    refine (c23L k9 (by simp) ((hw2.up t).up t11)).mono fun r H19 O19 t12 hr => ?_
    obtain ⟨o4, rfl⟩ := hr
    conv => whnf
    have t' := t.trans (t11.trans t12)
    refine (c23 m m _ _ _ (hp.up t') (hu1.up t') (by omega) hmr').val fun H20 t13 => ?_
    rw [eqM_refl]
    conv => whnf
    refine (c25 ws ws (by omega) _ _ _ (IntsH.up hq (t'.trans t13)) (IntsH.up hv1 (t'.trans t13))).val fun H21 t14 => ?_
    rw [decide_eq_true rfl]
    conv => whnf
    refine (c14 _).val fun H22 t15 => ?_
    conv => whnf
end Go.Proofs.YtmhnalikebkhjaaGreat


namespace Go.Proofs.YtmhnalikebkhjaaGreat
open Go.Proofs.YtmhnalikebkhjaaGreat.X Go.Proofs.YtmhnalikebkhjaaGreat.X.PH
set_option maxRecDepth 100000

def rhoI : Go.Shelf.Ren := ⟨fun | 21 => 26 | 27 => 78 | 28 => 79 | 35 => 146 | 39 => 180 | x => x, fun | 22 => 28 | x => x, fun x => x⟩
theorem laysI : Go.Proofs.Lays2.n21 Tryz.prog rhoI where
  mixed := mixes
  f21 := by kernel_rfl
  f27 := by kernel_rfl
  f28 := by kernel_rfl
  f35 := by kernel_rfl
  f39 := by kernel_rfl
  t0 := by kernel_rfl
  a0 := fun w => by kernel_rfl
  z0 := fun w => by kernel_rfl
  v0 := fun w => by kernel_rfl
  t3 := by kernel_rfl
  a3 := fun w => by kernel_rfl
  z3 := fun w => by kernel_rfl
  v3 := fun w => by kernel_rfl
  t4 := by kernel_rfl
  a4 := fun w => by kernel_rfl
  z4 := fun w => by kernel_rfl
  v4 := fun w => by kernel_rfl
  t22 := by kernel_rfl
  a22 := fun w => by kernel_rfl
  z22 := fun w => by kernel_rfl
  v22 := fun w => by kernel_rfl
  i3 := by kernel_rfl
end Go.Proofs.YtmhnalikebkhjaaGreat


namespace Go.Proofs.YtmhnalikebkhjaaGreat
open Go.Proofs.YtmhnalikebkhjaaGreat.X Go.Proofs.YtmhnalikebkhjaaGreat.X.PH
set_option maxRecDepth 100000

/-- What setting cells one by one does. -/
theorem setCells_heap (b : Nat) (t : TypeId) (fr : Nat × Nat) : ∀ (vs : List Value) (o : Nat) (c : List Value) (w : World), w.heap[b]? = some (.cells ⟨c⟩ t fr) → o + vs.length ≤ c.length →
    (w.setCells b o vs).heap[b]? = some (.cells ⟨c.take o ++ vs ++ c.drop (o + vs.length)⟩ t fr) ∧ (∀ n, n ≠ b → (w.setCells b o vs).heap[n]? = w.heap[n]?) ∧ (w.setCells b o vs).heap.size = w.heap.size ∧ (w.setCells b o vs).os = w.os ∧ (w.setCells b o vs).tape = w.tape ∧ (w.setCells b o vs).output = w.output
  | [], o, c, w, h, hl => by
    refine ⟨?_, fun _ _ => rfl, rfl, rfl, rfl, rfl⟩
    show w.heap[b]? = _
    rw [h]
    simp
  | v :: vs, o, c, w, h, hl => by
    simp only [List.length_cons] at hl
    have h1 : (w.setCell ⟨b, o, none⟩ v).heap[b]? = some (.cells ⟨c.set o v⟩ t fr) := by
      unfold World.setCell
      simp only [Array.getElem?_modify, if_true, h, Option.map_some]
      simp
    have h2 : ∀ n, n ≠ b → (w.setCell ⟨b, o, none⟩ v).heap[n]? = w.heap[n]? := fun n hn => by
      unfold World.setCell
      simp only [Array.getElem?_modify]
      rw [if_neg (Ne.symm hn)]
    obtain ⟨r1, r2, r3, r4, r5, r6⟩ := setCells_heap b t fr vs (o + 1) (c.set o v) _ h1 (by simp; omega)
    refine ⟨?_, fun n hn => (r2 n hn).trans (h2 n hn), r3.trans (by unfold World.setCell; simp), r4, r5, r6⟩
    show ((w.setCell ⟨b, o, none⟩ v).setCells b (o + 1) vs).heap[b]? = _
    rw [r1]
    have e1 : (c.set o v).take (o + 1) = c.take o ++ [v] := by
      rw [List.take_succ_eq_append_getElem (by simp; omega), List.take_set_of_le (Nat.le_refl _)]
      simp
    have e2 : (c.set o v).drop (o + 1 + vs.length) = c.drop (o + (vs.length + 1)) := by
      rw [List.drop_set_of_lt (by omega), show o + 1 + vs.length = o + (vs.length + 1) by omega]
    rw [e1, e2]
    simp
end Go.Proofs.YtmhnalikebkhjaaGreat


namespace Go.Proofs.YtmhnalikebkhjaaGreat
open Go.Proofs.YtmhnalikebkhjaaGreat.X Go.Proofs.YtmhnalikebkhjaaGreat.X.PH
set_option maxRecDepth 100000

theorem cell_at {w : World} {b : Nat} {c : List Value} {t : TypeId} (h : w.heap[b]? = some (.cells ⟨c⟩ t (0, 0))) (j : Nat) : w.cell? ⟨b, j, none⟩ = c[j]? := by
  unfold World.cell?
  simp [h]
theorem frozen_at {w : World} {b : Nat} {c : List Value} {t : TypeId} (h : w.heap[b]? = some (.cells ⟨c⟩ t (0, 0))) (j : Nat) : w.frozen? ⟨b, j, none⟩ = false := by
  unfold World.frozen?
  simp [h]
theorem shape_at {w : World} {b : Nat} {c : List Value} {t : TypeId} {fr : Nat × Nat} (h : w.heap[b]? = some (.cells ⟨c⟩ t fr)) : w.shape? b = some (t, c.length) := by
  unfold World.shape?
  simp [h]
/-- A block of one's own is written. -/
theorem post_set {H M : PH} {w w' : World} (hH : In H w) (hM : In M w) (hd : Dis H M) {b : Nat} {o o' : Obj} (hb : M b = some o) (h1 : w'.heap[b]? = some o') (h2 : ∀ n, n ≠ b → w'.heap[n]? = w.heap[n]?) (h3 : w'.heap.size = w.heap.size) (h4 : w'.os = w.os) (h5 : w'.tape = w.tape) (h6 : w'.output = w.output) :
    Post w H M w' H (ins M b o') := by
  have hHb : H b = none := (hd b).resolve_right (by rw [hb]; simp)
  refine ⟨Sub.refl H, fun n o hn => ?_, fun n o hn => ?_, fun n => ?_, fun n hn hm => ⟨rfl, ?_⟩, ⟨h4, h5, h6, by omega, fun n hn hm => h2 n fun e => by subst e; rw [hb] at hm; cases hm⟩⟩
  · rw [h2 n fun e => by subst e; rw [hHb] at hn; cases hn]
    exact hH n o hn
  · by_cases e : n = b
    · subst e; rw [ins_same] at hn; cases hn; exact h1
    · rw [ins_ne _ _ e] at hn; rw [h2 n e]; exact hM n o hn
  · by_cases e : n = b
    · subst e; exact .inl hHb
    · rw [ins_ne _ _ e]; exact hd n
  · rw [ins_ne _ _ fun e => by subst e; rw [hb] at hm; cases hm]; exact hm
/-- A new block. -/
theorem post_new {H M : PH} {w w' : World} (hH : In H w) (hM : In M w) (hd : Dis H M) {o' : Obj} (h1 : w'.heap[w.heap.size]? = some o') (h2 : ∀ n, n < w.heap.size → w'.heap[n]? = w.heap[n]?) (h3 : w.heap.size ≤ w'.heap.size) (h4 : w'.os = w.os) (h5 : w'.tape = w.tape) (h6 : w'.output = w.output) :
    Post w H M w' H (ins M w.heap.size o') := by
  have hHb : H w.heap.size = none := hH.none (Nat.le_refl _)
  have hMb : M w.heap.size = none := hM.none (Nat.le_refl _)
  refine ⟨Sub.refl H, fun n o hn => ?_, fun n o hn => ?_, fun n => ?_, fun n hn hm => ⟨rfl, ?_⟩, ⟨h4, h5, h6, h3, fun n hn hm => h2 n hn⟩⟩
  · rw [h2 n (hH.lt hn)]
    exact hH n o hn
  · by_cases e : n = w.heap.size
    · subst e; rw [ins_same] at hn; cases hn; exact h1
    · rw [ins_ne _ _ e] at hn; rw [h2 n (hM.lt hn)]; exact hM n o hn
  · by_cases e : n = w.heap.size
    · subst e; exact .inl hHb
    · rw [ins_ne _ _ e]; exact hd n
  · rw [ins_ne _ _ (by omega)]; exact hm
end Go.Proofs.YtmhnalikebkhjaaGreat


namespace Go.Proofs.YtmhnalikebkhjaaGreat
open Go.Proofs.YtmhnalikebkhjaaGreat.X Go.Proofs.YtmhnalikebkhjaaGreat.X.PH
set_option maxRecDepth 100000

/-- Integers of one's own, of a right capacity. -/
def IntsB (O : PH) (v : Value) (l : List Int) : Prop := IntsO O v l ∧ ∀ b n cap, v = .slice b n cap → cap ≤ 9223372036854775807
def insL (l : List Int) (i : Nat) (x : Int) : List Int := l.take i ++ [x] ++ l.drop i
theorem zeros_cells (k : Nat) : Builtin.zeroCells (Value.int .i64 0).cells k = ⟨List.replicate k (.int .i64 0)⟩ := by
  rw [zeroCells_eq (.int .i64 0) [.int .i64 0] rfl]
  simp
theorem IntsB.mk {O : PH} {b n cap : Nat} {l : List Int} {spare : List Value} (h : O b = some (.cells ⟨l.map (fun x => Value.int .i64 x) ++ spare⟩ 3 (0, 0))) (hn : n = l.length) (hc : l.length ≤ cap) (hs : spare.length = cap - l.length) (hcap : cap ≤ 9223372036854775807) : IntsB O (.slice (some ⟨b, 0, none⟩) n cap) l := by
  subst hn
  refine ⟨⟨by simp, .inr ⟨b, cap, spare, by simp, by rw [flat_oneI]; exact h, by simpa using hc, by simpa using hs⟩⟩, fun _ _ _ e => by cases e; exact hcap⟩
theorem ent135 : Ent Tryz.prog 26 := fun args w => by
  have := Tryz.func26
  simp [callFunc, this, Tryz.f26]
theorem list_shift (cs spare : List Value) (x : Value) {i : Nat} (hi : i < cs.length) :
    (((cs ++ spare).take (0 + (i + 1)) ++ cs.drop i ++ (cs ++ spare).drop (0 + (i + 1) + (cs.drop i).length)).take (0 + i) ++ [x] ++ ((cs ++ spare).take (0 + (i + 1)) ++ cs.drop i ++ (cs ++ spare).drop (0 + (i + 1) + (cs.drop i).length)).drop (0 + i + [x].length)) = cs.take i ++ [x] ++ cs.drop i ++ spare.drop 1 := by
  have e1 : (cs ++ spare).take (0 + (i + 1)) = cs.take (i + 1) := by rw [Nat.zero_add, List.take_append_of_le_length (by omega)]
  have e2 : (cs ++ spare).drop (0 + (i + 1) + (cs.drop i).length) = spare.drop 1 := by
    rw [List.length_drop, show 0 + (i + 1) + (cs.length - i) = cs.length + 1 by omega, ← List.drop_drop, List.drop_left]
  have l1 : (cs.take (i + 1)).length = i + 1 := by rw [List.length_take]; omega
  rw [e1, e2, List.append_assoc (cs.take (i + 1)), List.take_append_of_le_length (by omega), List.take_take, List.length_singleton, show 0 + i + 1 = (cs.take (i + 1)).length by omega, List.drop_left]
  rw [Nat.zero_add, Nat.min_eq_left (by omega)]
  simp
theorem list_grow (cs zs : List Value) (z x : Value) {i n : Nat} (hi : i < cs.length) (hn : cs.length = n) :
    let c0 := cs.take i ++ List.replicate (n + 1 - i) z ++ zs
    ((c0.take i ++ [x] ++ c0.drop (i + [x].length)).take (i + 1) ++ cs.drop i ++ (c0.take i ++ [x] ++ c0.drop (i + [x].length)).drop (i + 1 + (cs.drop i).length)) = cs.take i ++ [x] ++ cs.drop i ++ zs := by
  intro c0
  have l0 : (cs.take i).length = i := by rw [List.length_take]; omega
  have e1 : c0.take i = cs.take i := by
    show (cs.take i ++ List.replicate (n + 1 - i) z ++ zs).take i = _
    rw [List.append_assoc, List.take_append_of_le_length (by omega), List.take_of_length_le (by omega)]
  have l1 : (cs.take i ++ [x]).length = i + 1 := by simp [l0]
  have e2 : c0.drop (n + 1) = zs := by
    show (cs.take i ++ List.replicate (n + 1 - i) z ++ zs).drop (n + 1) = _
    have : n + 1 = (cs.take i ++ List.replicate (n + 1 - i) z).length := by simp; omega
    exact (congrArg (fun k => (cs.take i ++ List.replicate (n + 1 - i) z ++ zs).drop k) this).trans List.drop_left
  rw [e1]
  have e3 : (cs.take i ++ [x] ++ c0.drop (i + [x].length)).take (i + 1) = cs.take i ++ [x] := by
    rw [← l1, List.take_left]
  have e4 : (cs.take i ++ [x] ++ c0.drop (i + [x].length)).drop (i + 1 + (cs.drop i).length) = zs := by
    rw [← List.drop_drop, ← l1, List.drop_left, List.drop_drop, List.length_drop, List.length_singleton, show i + 1 + (cs.length - i) = n + 1 by omega, e2]
  rw [e3, e4]
set_option maxHeartbeats 1000000 in
theorem c135 (l : List Int) (i : Nat) (x : Int) (hi : i ≤ l.length) (hl : l.length < 1000) (H M : PH) (v : Value) (bv : Nat) (hv : IntsB M v l) (hbv : H bv = some (.cells ⟨[.int .i64 x]⟩ 3 (0, 0))) :
    Cl Tryz.prog 26 [v, .int .i64 i, .slice (some ⟨bv, 0, none⟩) 1 1] H M fun r _ M' => IntsB M' r (insL l i x) := by
  obtain ⟨⟨_, hv⟩, hcap⟩ := hv
  have hil : (insL l i x).length = l.length + 1 := by simp [insL]; omega
  unfold Cl
  refine ⟨ent135, fun w hH hM hd => ?_⟩
  have kv := hH _ _ hbv
  have hvs : ∀ (j : Nat) v, [Value.int .i64 x][j]? = some v → w.cell? ⟨bv, 0 + j, none⟩ = some v := fun j v hj => by rw [cell_at kv, Nat.zero_add]; exact hj
  have h1v : ∀ v ∈ [Value.int .i64 x], v.oneCell' = true := by simp [Value.oneCell']
  have h1c : ∀ v ∈ l.map (fun x => Value.int .i64 x), v.oneCell' = true := by simp [Value.oneCell']
  have mx : maxLen = 9223372036854775807 := rfl
  rcases hv with ⟨rfl, hnil⟩ | ⟨b, cap, spare, rfl, hO, hle, hsp⟩
  · have : l = [] := by simpa using hnil
    subst this
    have hi0 : i = 0 := by simpa using hi
    subst hi0
    refine (Go.Proofs.Any2.slices_Insert_int_end_grow laysI none 0 0 bv 0 1 1 [] [.int .i64 x] w (by decide) (by decide) (by decide) (by decide) rfl rfl (fun _ => rfl) (fun a h => by cases h) hvs h1v).mono ?_
    rintro e w' ⟨rfl, rfl⟩
    have hg := grownCap_ge w 1 0 3
    have hg2 := grownCap_le_maxLen w 1 0 3 (by decide)
    refine ⟨_, H, _, rfl, post_new hH hM hd (alloc_new w.drew _) (fun n hn => alloc_old w.drew _ hn) (Frm.alloc (Frm.refl emp w.drew) _).size rfl rfl rfl, ?_⟩
    refine IntsB.mk (spare := List.replicate (grownCap w 1 0 3 - 1) (.int .i64 0)) ?_ rfl hg (by simp [insL]; rfl) (by rw [mx] at hg2; exact hg2)
    rw [ins_same, zeros_cells, show rhoI.t 3 = 3 from rfl]
    simp [insL]
  have hcap := hcap _ _ _ rfl
  rw [flat_oneI] at hO
  have ko := hM _ _ hO
  simp only [List.length_map] at hle hsp ⊢
  have hbb : bv ≠ b := fun e => by
    subst e
    rcases hd bv with h | h
    · rw [hbv] at h; cases h
    · rw [hO] at h; cases h
  obtain ⟨cs, hcs⟩ : ∃ cs, cs = l.map fun x => Value.int .i64 x := ⟨_, rfl⟩
  rw [← hcs] at hO ko h1c
  have hcl : cs.length = l.length := by rw [hcs]; simp
  have hcv : ∀ (j : Nat) v, cs[j]? = some v → w.cell? ⟨b, 0 + j, none⟩ = some v := fun j v hj => by
    rw [cell_at ko, Nat.zero_add, List.getElem?_append_left (List.getElem?_eq_some_iff.1 hj).1]
    exact hj
  have hlen : (cs ++ spare).length = cap := by rw [List.length_append, hcl, hsp]; omega
  have hins : ∀ sp : List Value, (insL l i x).map (fun x => Value.int .i64 x) ++ sp = cs.take i ++ [.int .i64 x] ++ cs.drop i ++ sp := fun sp => by
    rw [hcs]
    simp [insL, List.map_take, List.map_drop]
  rcases Nat.lt_or_ge l.length cap with hroom | hroom
  · have hsp1 : ∀ j, j < l.length + 1 → (w.cell? ⟨b, 0 + j, none⟩).isSome = true := fun j hj => by
      rw [cell_at ko, Nat.zero_add, List.getElem?_eq_getElem (by omega)]
      rfl
    rcases Nat.lt_or_ge i l.length with hin | hin
    · refine (Go.Proofs.Any2.slices_Insert_int_shift laysI b 0 l.length cap i bv 0 1 1 cs [.int .i64 x] w hin (by decide) (by omega) hcap hbb hcl rfl hcv hsp1 (fun j _ => frozen_at ko _) hvs h1c h1v 3 3 1 cap (shape_at kv) (by rw [shape_at ko, hlen]) (by omega) (frozen_at kv _) (frozen_at kv _)).mono ?_
      rintro e w' ⟨rfl, rfl⟩
      obtain ⟨a1, a2, a3, a4, a5, a6⟩ := setCells_heap b 3 (0, 0) (cs.drop i) (0 + (i + 1)) (cs ++ spare) w.drew ko (by rw [hlen, List.length_drop, hcl]; omega)
      obtain ⟨d1, d2, d3, d4, d5, d6⟩ := setCells_heap b 3 (0, 0) [.int .i64 x] (0 + i) _ _ a1 (by simp; omega)
      refine ⟨_, H, _, rfl, post_set hH hM hd hO d1 (fun n hn => (d2 n hn).trans (a2 n hn)) (d3.trans a3) (d4.trans a4) (d5.trans a5) (d6.trans a6), ?_⟩
      refine IntsB.mk (spare := spare.drop 1) ?_ hil.symm (by omega) (by rw [List.length_drop, hsp]; omega) hcap
      rw [ins_same, hins]
      rw [list_shift cs spare (.int .i64 x) (by omega)]
    · have : i = l.length := by omega
      subst this
      refine (Go.Proofs.Any2.slices_Insert_int_end_room laysI b 0 l.length cap bv 0 1 1 [.int .i64 x] w (by decide) (by omega) hcap rfl (fun j hj => by rw [Nat.zero_add]; have := hsp1 (l.length + j) (by omega); rwa [Nat.zero_add] at this) (fun j _ => frozen_at ko _) hvs h1v).mono ?_
      rintro e w' ⟨rfl, rfl⟩
      obtain ⟨d1, d2, d3, d4, d5, d6⟩ := setCells_heap b 3 (0, 0) [.int .i64 x] (0 + l.length) _ w ko (by rw [hlen]; simp; omega)
      refine ⟨_, H, _, rfl, post_set hH hM hd hO d1 d2 d3 d4 d5 d6, ?_⟩
      refine IntsB.mk (spare := spare.drop 1) ?_ hil.symm (by omega) (by rw [List.length_drop, hsp]; omega) hcap
      rw [ins_same, hins, ← hcl]
      simp [List.drop_append]
  · have hce : cap = l.length := by omega
    rcases Nat.lt_or_ge i l.length with hin | hin
    · refine (Go.Proofs.Any2.slices_Insert_int_grow laysI b 0 l.length cap i bv 0 1 1 cs [.int .i64 x] w hin (by decide) hle (by omega) (by omega) hcl rfl hcv hvs h1c h1v).mono ?_
      rintro e w' ⟨rfl, rfl⟩
      have hg := grownCap_ge w (l.length + 1) cap 3
      have hg2 := grownCap_le_maxLen w (l.length + 1) cap 3 (by rw [mx]; omega)
      rw [show rhoI.t 3 = 3 from rfl]
      have e : ((cs.take i).toArray ++ Builtin.zeroCells (Value.int .i64 0).cells (l.length + 1 - i) ++ Builtin.zeroCells (Value.int .i64 0).cells (grownCap w (l.length + 1) cap 3 - (l.length + 1))) = (⟨cs.take i ++ List.replicate (l.length + 1 - i) (.int .i64 0) ++ List.replicate (grownCap w (l.length + 1) cap 3 - (l.length + 1)) (.int .i64 0)⟩ : Array Value) := by
        rw [zeros_cells, zeros_cells]
        simp
      rw [e]
      have hci : (cs.take i).length = i := by rw [List.length_take, hcl]; omega
      obtain ⟨zs, hzs⟩ : ∃ zs : List Value, zs = List.replicate (grownCap w (l.length + 1) cap 3 - (l.length + 1)) (.int .i64 0) := ⟨_, rfl⟩
      have hzl : zs.length = grownCap w (l.length + 1) cap 3 - (l.length + 1) := by rw [hzs]; simp
      rw [← hzs]
      obtain ⟨c0, hc0⟩ : ∃ c0 : List Value, c0 = cs.take i ++ List.replicate (l.length + 1 - i) (.int .i64 0) ++ zs := ⟨_, rfl⟩
      rw [← hc0]
      have hc0l : l.length + 1 ≤ c0.length := by rw [hc0]; simp only [List.length_append, List.length_replicate, hci]; omega
      have h0 := (Frm.alloc (Frm.refl emp w) (.cells ⟨c0⟩ 3 (0, 0))).size
      have hnew := alloc_new w (.cells ⟨c0⟩ 3 (0, 0))
      have hold := fun n hn => alloc_old w (.cells ⟨c0⟩ 3 (0, 0)) (n := n) hn
      have hfr := Frm.alloc (Frm.refl emp w) (.cells ⟨c0⟩ 3 (0, 0))
      generalize w.alloc (.cells ⟨c0⟩ 3 (0, 0)) = w1 at *
      obtain ⟨a1, a2, a3, a4, a5, a6⟩ := setCells_heap w.heap.size 3 (0, 0) [.int .i64 x] i c0 w1.drew hnew (by simp; omega)
      have l1 : (c0.take i ++ [Value.int .i64 x] ++ c0.drop (i + [Value.int .i64 x].length)).length = c0.length := by simp; omega
      obtain ⟨d1, d2, d3, d4, d5, d6⟩ := setCells_heap w.heap.size 3 (0, 0) (cs.drop i) (i + 1) _ (w1.drew.setCells w.heap.size i [.int .i64 x]).drew a1 (by rw [l1, List.length_drop, hcl]; omega)
      refine ⟨_, H, _, rfl, post_new hH hM hd d1 (fun n hn => (d2 n (by omega)).trans ((a2 n (by omega)).trans (hold n hn))) (Nat.le_trans h0 (Nat.le_of_eq (d3.trans a3).symm)) ((d4.trans a4).trans hfr.os) ((d5.trans a5).trans hfr.tape) ((d6.trans a6).trans hfr.output), ?_⟩
      refine IntsB.mk (spare := zs) ?_ hil.symm (by rw [hil]; exact hg) (by rw [hil, hzl]) (by rw [mx] at hg2; exact hg2)
      rw [ins_same, hins, hc0]
      rw [list_grow cs zs _ (.int .i64 x) (by rw [hcl]; exact hin) hcl]
    · have : i = l.length := by omega
      subst this
      refine (Go.Proofs.Any2.slices_Insert_int_end_grow laysI (some ⟨b, 0, none⟩) l.length cap bv 0 1 1 cs [.int .i64 x] w (by decide) hle (by omega) (by omega) hcl rfl (fun h => by cases h) (fun a ha j v hj => by cases ha; rw [add_at]; exact hcv j v hj) hvs h1v).mono ?_
      rintro e w' ⟨rfl, rfl⟩
      have hg := grownCap_ge w (l.length + 1) cap 3
      have hg2 := grownCap_le_maxLen w (l.length + 1) cap 3 (by rw [mx]; omega)
      refine ⟨_, H, _, rfl, post_new hH hM hd (alloc_new w.drew _) (fun n hn => alloc_old w.drew _ hn) (Frm.alloc (Frm.refl emp w.drew) _).size rfl rfl rfl, ?_⟩
      refine IntsB.mk (spare := List.replicate (grownCap w (l.length + 1) cap 3 - (l.length + 1)) (.int .i64 0)) ?_ hil.symm (by rw [hil]; exact hg) (by rw [hil]; simp; rfl) (by rw [mx] at hg2; exact hg2)
      rw [ins_same, zeros_cells, show rhoI.t 3 = 3 from rfl, hins]
      simp [← hcl]
end Go.Proofs.YtmhnalikebkhjaaGreat


namespace Go.Proofs.YtmhnalikebkhjaaGreat
open Go.Proofs.YtmhnalikebkhjaaGreat.X Go.Proofs.YtmhnalikebkhjaaGreat.X.PH
set_option maxRecDepth 100000

theorem IntsB.sub {O O' : PH} {v : Value} {l : List Int} (h : IntsB O v l) (hs : Sub O O') : IntsB O' v l := by
  obtain ⟨⟨h1, h2⟩, h3⟩ := h
  refine ⟨⟨h1, ?_⟩, h3⟩
  rcases h2 with h | ⟨b, cap, sp, e, ho, q⟩
  · exact .inl h
  · exact .inr ⟨b, cap, sp, e, hs _ _ ho, q⟩
theorem insL_perm (l : List Int) (i : Nat) (x : Int) : (insL l i x).Perm (l ++ [x]) := by
  unfold insL
  have h1 : (l.take i ++ [x] ++ l.drop i).Perm (l.take i ++ (l.drop i ++ [x])) := by
    rw [List.append_assoc]
    exact List.Perm.append_left _ List.perm_append_comm
  refine h1.trans ?_
  rw [← List.append_assoc, List.take_append_drop]
def rangeI (n : Nat) : List Int := (List.range n).map fun (k : Nat) => (k : Int)
theorem rangeI_len (n : Nat) : (rangeI n).length = n := by simp [rangeI]
theorem rangeI_succ (n : Nat) : rangeI (n + 1) = rangeI n ++ [(n : Int)] := by simp [rangeI, List.range_succ]
/-- slices.Insert, beside a store. -/
theorem c135s (l : List Int) (i : Nat) (x : Int) (hi : i ≤ l.length) (hl : l.length < 1000) (H O : PH) (v : Value) (bv b N : Nat) (hv : IntsB O v l) (hst : StO H O b N) (hbv : H bv = some (.cells ⟨[.int .i64 x]⟩ 3 (0, 0))) :
    Cl Tryz.prog 26 [v, .int .i64 i, .slice (some ⟨bv, 0, none⟩) 1 1] H O fun r H' O' => IntsB O' r (insL l i x) ∧ StO H O' b N := by
  have key : ∃ M R, Parts O M R ∧ IntsB M v l ∧ ∀ c, O b = some (.cells c 52 (0, 0)) → R b = some (.cells c 52 (0, 0)) := by
    obtain ⟨⟨h1, h2⟩, h3⟩ := id hv
    rcases h2 with ⟨e, h⟩ | ⟨b', cap, sp, e, ho, q⟩
    · exact ⟨emp, O, Parts.emp O, ⟨⟨h1, .inl ⟨e, h⟩⟩, h3⟩, fun c h => h⟩
    · refine ⟨only O b', del O b', parts_only _ _, ⟨⟨h1, .inr ⟨b', cap, sp, e, (only_same _ _).trans ho, q⟩⟩, h3⟩, fun c h => ?_⟩
      have hne := hst.ne ho (by decide)
      rw [del_ne _ hne.symm]
      exact h
  obtain ⟨M, R, hp, hM, hR⟩ := key
  refine (Cl.frame hp (c135 l i x hi hl H M v bv hM hbv)).mono fun r H' O' _ hq => ?_
  obtain ⟨M', hp', hq⟩ := hq
  exact ⟨hq.sub hp'.left, hst.keep fun c hc => hp'.right _ _ (hR c hc)⟩
/-- The numbers from 0 to n less 1, in some order. -/
theorem c62 (n : Nat) (hn : n ≤ 100) (N b : Nat) (hN : N < 4611686018427380000) (H O : PH) (h : StO H O b N) :
    Cl Tryz.prog 8 [.pointer (some ⟨b, 0, none⟩), .int .i64 n] H O fun r H' O' => ∃ l : List Int, IntsB O' r l ∧ l.Perm (rangeI n) ∧ StO H' O' b (N + n) := by
  refine Cl_of (pol := fun | 17 => .imm | _ => .loc) Γok Tryz.func8 (by kernel_rfl) rfl ?_
  conv => whnf
  refine W_loop (pol := fun | 17 => .imm | _ => .loc) Γok (Nat × PH × PH × Value × List Int) (fun i => i.1 ≤ n ∧ IntsB i.2.2.1 i.2.2.2.1 i.2.2.2.2 ∧ i.2.2.2.2.Perm (rangeI i.1) ∧ StO i.2.1 i.2.2.1 b (N + i.1)) (fun i => n - i.1) (fun i => [(5, .v i.2.2.2.1), (8, .v (.int .i64 i.1))]) (fun _ => []) (fun i => i.2.1) (fun i => i.2.2.1) ⟨(0, H, O, .slice none 0 0, []), ⟨by simp, ⟨⟨by simp, .inl ⟨rfl, rfl⟩⟩, fun _ _ _ e => by cases e; decide⟩, List.Perm.refl _, h⟩, rfl, rfl, ?_⟩ ?_
  · conv => whnf
    repeat (refine ⟨rfl, ?_⟩; conv => whnf)
    exact trivial
  · rintro ⟨i, H1, O1, v, l⟩ ⟨h1, hv, hpm, hs⟩
    dsimp only at h1 hv hpm hs
    have hll : l.length = i := by have := hpm.length_eq; rwa [rangeI_len] at this
    conv => whnf
    refine if_intro (fun hc => ?_) (fun hc => ?_)
    · have hi : i < n := by simpa using hc
      conv => whnf
      rw [wrap_id (n := (i : Int) + 1) (by omega) (by omega)]
      refine (c56 (i + 1) (N + i) b (by omega) H1 O1 hs).mono fun r H2 O2 s2 hr => ?_
      obtain ⟨k, rfl, hk, _, hst⟩ := hr
      obtain ⟨k1, k2⟩ := hk (by omega)
      obtain ⟨k, rfl⟩ := nat_of (a := k) k1
      have hv2 : IntsB O2 v l := by
        obtain ⟨⟨g1, g2⟩, g3⟩ := hv
        refine ⟨⟨g1, ?_⟩, g3⟩
        rcases g2 with g | ⟨b', cap, sp, e, ho, q⟩
        · exact .inl g
        · exact .inr ⟨b', cap, sp, e, (hst.other (hs.ne ho (by decide))).trans ho, q⟩
      conv => whnf
      intro bb hb _
      conv => whnf
      refine (c135s l k i (by omega) (by omega) _ O2 v bb b (N + i + 1) hv2 (hst.2.up (sub_ins _ _ hb)) (ins_same _ _ _)).mono fun r H3 O3 s3 hr => ?_
      obtain ⟨hr, hst3⟩ := hr
      conv => whnf
      refine ⟨(i + 1, H3, O3, r, insL l k i), ⟨hi, hr, ?_, hst3.up s3⟩, by dsimp only; omega, ?_⟩
      · dsimp only
        rw [rangeI_succ]
        exact (insL_perm l k i).trans (List.Perm.append_right _ hpm)
      refine ⟨rfl, rfl, ?_⟩
      conv => whnf
      repeat (refine ⟨rfl, ?_⟩; conv => whnf)
      refine ⟨by show En.v (.int .i64 (IntKind.i64.wrap (i + 1))) = _; rw [wrap_id (by omega) (by omega)]; rfl, ?_⟩
      conv => whnf
      repeat (refine ⟨rfl, ?_⟩; conv => whnf)
      exact trivial
    · have hi : i = n := by
        have h := of_decide_eq_false hc
        omega
      subst hi
      conv => whnf
      exact ⟨l, hv, hpm, hs⟩
end Go.Proofs.YtmhnalikebkhjaaGreat


namespace Go.Proofs.YtmhnalikebkhjaaGreat
open Go.Proofs.YtmhnalikebkhjaaGreat.X Go.Proofs.YtmhnalikebkhjaaGreat.X.PH
set_option maxRecDepth 100000

/-- All lists of n numbers below m. -/
def listsOf (m : Nat) : Nat → List (List Int)
  | 0 => [[]]
  | n + 1 => (List.range m).flatMap fun (x : Nat) => (listsOf m n).map fun l => (x : Int) :: l
theorem mem_listsOf {m : Nat} : ∀ (n : Nat) (l : List Int), l.length = n → (∀ x ∈ l, ∃ k : Nat, k < m ∧ x = k) → l ∈ listsOf m n
  | 0, [], _, _ => by simp [listsOf]
  | n + 1, x :: l, h, hx => by
    obtain ⟨k, hk, rfl⟩ := hx x (by simp)
    simp only [listsOf, List.mem_flatMap, List.mem_map]
    exact ⟨k, List.mem_range.2 hk, l, mem_listsOf n l (by simpa using h) fun y hy => hx y (by simp [hy]), rfl⟩
/-- All orders of the numbers from 0 to n less 1. -/
def permsL (n : Nat) : List (List Int) := (listsOf n n).filter fun l => decide l.Nodup
theorem rangeI_nodup (n : Nat) : (rangeI n).Nodup := by
  unfold rangeI
  exact List.Pairwise.map _ (fun a b h e => h (by omega)) List.nodup_range
theorem perm_mem {n : Nat} {l : List Int} (h : l.Perm (rangeI n)) : l ∈ permsL n := by
  unfold permsL
  rw [List.mem_filter]
  refine ⟨mem_listsOf n l (by rw [h.length_eq, rangeI_len]) fun x hx => ?_, decide_eq_true (h.nodup_iff.2 (rangeI_nodup n))⟩
  have := h.mem_iff.1 hx
  unfold rangeI at this
  obtain ⟨k, hk, rfl⟩ := List.mem_map.1 this
  exact ⟨k, List.mem_range.1 hk, rfl⟩
/-- How a state is split by the first wires, by the others, and by all. -/
def splitOk (l : List Int) (a n k : Nat) : Bool :=
  let x := splitF (l.take a) (l.take a).length k
  let y := splitF (l.drop a) (l.drop a).length k
  let z := splitF l l.length k
  decide (z.2 = 0) && decide (z.1 = y.1 * 2 ^ a + x.1)
theorem split_all : ∀ n, n < 5 → ∀ l ∈ permsL n, ∀ a, a < 3 → a ≤ n → ∀ k, k < 2 ^ n → splitOk l a n k = true := by decide +kernel
end Go.Proofs.YtmhnalikebkhjaaGreat


namespace Go.Proofs.YtmhnalikebkhjaaGreat
open Go.Proofs.YtmhnalikebkhjaaGreat.X Go.Proofs.YtmhnalikebkhjaaGreat.X.PH
set_option maxRecDepth 100000

/-! ### an operator on wires, at a level -/
def onR (m : Mx) (ws : List Int) (n : Int) : Mx × Int := resM (onErr m ws n) (onAt m ws) (2 ^ n.toNat) (2 ^ n.toNat)
def spW (ws : List Int) (k : Nat) : Nat × Nat := spl (fun j => (ws.getD j 0).toNat) ws.length k
theorem spW_eq {ws : List Int} {n : Nat} (hn : n ≤ 6) (h1 : ws.all (inW n) = true) (hl : ws.length ≤ 6) {k : Nat} (hk : k < 64) :
    splitF ws ws.length k = (((spW ws k).1 : Int), ((spW ws k).2 : Int)) ∧ (spW ws k).1 < 2 ^ ws.length := by
  have hin : ∀ x ∈ ws, 0 ≤ x ∧ x < n := fun x hx => by
    have := List.all_eq_true.1 h1 x hx
    unfold inW at this
    simpa using this
  have hg : ∀ j, j < ws.length → 0 ≤ ws.getD j 0 ∧ ws.getD j 0 < n := fun j hj => by
    rw [List.getD_eq_getElem?_getD, List.getElem?_eq_getElem hj]
    exact hin _ (List.getElem_mem hj)
  have hw : ∀ j, (fun j => (ws.getD j 0).toNat) j < 6 := fun j => by
    dsimp only
    by_cases hj : j < ws.length
    · have := hg j hj
      omega
    · rw [List.getD_eq_getElem?_getD, List.getElem?_eq_none (by omega)]
      decide
  refine ⟨split_spl ws _ hw ws.length k hl hk fun i hi => ?_, (spl_lt _ hw ws.length k hk).1⟩
  have := hg i hi
  omega
theorem shl_pow : ∀ j : Nat, j ≤ 6 → shlI 1 (j : Int) = ((2 ^ j : Nat) : Int) := by decide +kernel
theorem pow64 {n : Nat} (hn : n ≤ 6) : 2 ^ n ≤ 64 ∧ 0 < 2 ^ n := by
  have : 2 ^ n ≤ 2 ^ 6 := Nat.pow_le_pow_right (by decide) hn
  exact ⟨by omega, Nat.pow_pos (by decide)⟩
theorem On_lv {m : Mx} {N : Nat} {A : Int} (hA : 0 ≤ A) {ws : List Int} (hm : MV N A m (2 ^ ws.length) (2 ^ ws.length)) (n : Nat) (hn : n ≤ 6) (h1 : ws.all (inW n) = true) (h2 : twiceF ws = false) (hl : ws.length ≤ 6) :
    ∃ p, onR m ws n = (p, 0) ∧ MV N A p (2 ^ n) (2 ^ n) ∧ ML p ∧ ∀ i k, i < 2 ^ n → k < 2 ^ n → ev N p i k = if (spW ws i).2 = (spW ws k).2 then ev N m (spW ws i).1 (spW ws k).1 else P4.zero := by
  obtain ⟨pn, pp⟩ := pow64 hn
  have hE : onErr m ws n = 0 := by
    unfold onErr
    rw [hm.check, if_neg (by simp), if_neg (by simp; omega), if_neg (by rw [h1]; simp), if_neg (by rw [h2]; simp), hm.len, hm.wid, shl_pow _ hl, if_neg (by simp)]
  have key : ∀ i k, i < 2 ^ n → k < 2 ^ n → (onAt m ws i k).2 = 0 ∧ IsL (onAt m ws i k).1 ∧ LV N A (onAt m ws i k).1 ∧ lv N (onAt m ws i k).1 = if (spW ws i).2 = (spW ws k).2 then ev N m (spW ws i).1 (spW ws k).1 else P4.zero := by
    intro i k hi hk
    obtain ⟨e1, b1⟩ := spW_eq hn h1 hl (k := i) (by omega)
    obtain ⟨e2, b2⟩ := spW_eq hn h1 hl (k := k) (by omega)
    unfold onAt
    rw [e1, e2]
    dsimp only
    by_cases h : (spW ws i).2 = (spW ws k).2
    · rw [if_neg (by rw [h]; simp), if_pos h, Int.toNat_natCast, Int.toNat_natCast]
      have hx := hm.el _ _ b1 b2
      have rx := right_in hx.ok
      rw [LeastF_eq hx.ok]
      obtain ⟨f1, f2, f3⟩ := lv_form (N := N) (fine_of (within_mono rx.2.2 (by decide))) rx.1 hx.le
      have hL := form_L hx.ok
      have hv : lv N (formR (entry m (spW ws i).1 (spW ws k).1).1 (entry m (spW ws i).1 (spW ws k).1).2) = ev N m (spW ws i).1 (spW ws k).1 := f1
      exact ⟨rfl, hL, ⟨hL.ok, Int.le_trans f3 hx.le, by rw [hv]; exact hx.small⟩, hv⟩
    · rw [if_pos (by intro q; exact h (by omega)), if_neg h]
      exact ⟨rfl, zero_L, (zero_LV N).mono hA, lv_zero N⟩
  obtain ⟨p, q1, q2, q3, q4⟩ := grid_lv (F := onAt m ws) (N := N) (A := A) (e := onErr m ws n) pp pn pp pn hE fun i k hi hk => ⟨(key i k hi hk).1, (key i k hi hk).2.1, (key i k hi hk).2.2.1⟩
  refine ⟨p, q1, q2, q3, fun i k hi hk => ?_⟩
  unfold ev
  rw [q4 i k hi hk]
  exact (key i k hi hk).2.2.2

/-! ### sums of which one part is not 0 -/
def sL : List P4 → P4
  | [] => P4.zero
  | x :: l => pl x (sL l)
theorem sL_app (x : P4) : ∀ l, sL (l ++ [x]) = pl (sL l) x
  | [] => by rw [List.nil_append]; show pl x P4.zero = pl P4.zero x; exact pl_comm _ _
  | y :: l => by
    show pl y (sL (l ++ [x])) = pl (pl y (sL l)) x
    rw [sL_app x l, pl_assoc]
theorem su_filter {α : Type} (g : Nat → α) (c : α → Bool) (F : α → P4) : ∀ n, su (fun t => if c (g t) = true then F (g t) else P4.zero) n = sL ((((List.range n).map g).filter c).map F)
  | 0 => rfl
  | n + 1 => by
    rw [List.range_succ, List.map_append, List.filter_append, List.map_append]
    show pl (su _ n) (if c (g n) = true then F (g n) else P4.zero) = _
    rw [su_filter g c F n]
    by_cases h : c (g n) = true
    · rw [if_pos h]
      simp only [List.map_cons, List.map_nil, List.filter_cons, h, if_true, List.filter_nil]
      rw [sL_app]
    · rw [if_neg h]
      simp only [List.map_cons, List.map_nil, List.filter_cons, h, List.filter_nil]
      simp [pl_zero]
theorem su_one {α : Type} (g : Nat → α) (c : α → Bool) (F : α → P4) {n : Nat} {j : α} (h : ((List.range n).map g).filter c = [j]) : su (fun t => if c (g t) = true then F (g t) else P4.zero) n = F j := by
  rw [su_filter, h]
  show pl (F j) P4.zero = F j
  exact pl_zero _

/-! ### wires apart -/
def gL (l : List Int) (a : Nat) (k : Nat) : (Nat × Nat) × (Nat × Nat) := (spW (l.take a) k, spW (l.drop a) k)
def midC (i k j : (Nat × Nat) × (Nat × Nat)) : Bool := Nat.beq i.1.2 j.1.2 && Nat.beq j.2.2 k.2.2
def midOk (l : List Int) (a n : Nat) : Bool :=
  let G := (List.range (2 ^ n)).map (gL l a)
  G.all fun i => G.all fun k => match G.filter (midC i k) with
    | [j] => Nat.beq j.1.1 k.1.1 && Nat.beq j.2.1 i.2.1
    | _ => false
def midC2 (i k j : (Nat × Nat) × (Nat × Nat)) : Bool := Nat.beq i.2.2 j.2.2 && Nat.beq j.1.2 k.1.2
def midOk2 (l : List Int) (a n : Nat) : Bool :=
  let G := (List.range (2 ^ n)).map (gL l a)
  G.all fun i => G.all fun k => match G.filter (midC2 i k) with
    | [j] => Nat.beq j.1.1 i.1.1 && Nat.beq j.2.1 k.2.1
    | _ => false
theorem mid_all : ∀ n, n < 5 → ∀ l ∈ permsL n, ∀ a, a < 3 → 1 ≤ a → a < n → midOk l a n = true := by decide +kernel
theorem mid2_all : ∀ n, n < 5 → ∀ l ∈ permsL n, ∀ a, a < 3 → 1 ≤ a → a < n → midOk2 l a n = true := by decide +kernel
theorem mid_get {l : List Int} {a n : Nat} (h : midOk l a n = true) {i k : Nat} (hi : i < 2 ^ n) (hk : k < 2 ^ n) :
    ∃ j, ((List.range (2 ^ n)).map (gL l a)).filter (midC (gL l a i) (gL l a k)) = [j] ∧ j.1.1 = (gL l a k).1.1 ∧ j.2.1 = (gL l a i).2.1 := by
  have h1 := List.all_eq_true.1 (List.all_eq_true.1 h _ (List.mem_map.2 ⟨i, List.mem_range.2 hi, rfl⟩)) _ (List.mem_map.2 ⟨k, List.mem_range.2 hk, rfl⟩)
  split at h1
  · rename_i j hj
    have h2 := (Bool.and_eq_true _ _).mp h1
    exact ⟨j, hj, Nat.eq_of_beq_eq_true h2.1, Nat.eq_of_beq_eq_true h2.2⟩
  · cases h1
theorem mid2_get {l : List Int} {a n : Nat} (h : midOk2 l a n = true) {i k : Nat} (hi : i < 2 ^ n) (hk : k < 2 ^ n) :
    ∃ j, ((List.range (2 ^ n)).map (gL l a)).filter (midC2 (gL l a i) (gL l a k)) = [j] ∧ j.1.1 = (gL l a i).1.1 ∧ j.2.1 = (gL l a k).2.1 := by
  have h1 := List.all_eq_true.1 (List.all_eq_true.1 h _ (List.mem_map.2 ⟨i, List.mem_range.2 hi, rfl⟩)) _ (List.mem_map.2 ⟨k, List.mem_range.2 hk, rfl⟩)
  split at h1
  · rename_i j hj
    have h2 := (Bool.and_eq_true _ _).mp h1
    exact ⟨j, hj, Nat.eq_of_beq_eq_true h2.1, Nat.eq_of_beq_eq_true h2.2⟩
  · cases h1
/-- What is asked of the wires; and a state is split by all of them as by both parts. -/
def wiresOk (l : List Int) (a n : Nat) : Bool :=
  l.all (inW n) && !twiceF l && decide (l.length = n) && (l.take a).all (inW n) && !twiceF (l.take a) && (l.drop a).all (inW n) && !twiceF (l.drop a) &&
  (List.range (2 ^ n)).all fun k => Nat.beq (spW l k).2 0 && Nat.beq (spW l k).1 ((spW (l.drop a) k).1 * 2 ^ a + (spW (l.take a) k).1)
theorem wires_all : ∀ n, n < 5 → ∀ l ∈ permsL n, ∀ a, a < 3 → 1 ≤ a → a < n → wiresOk l a n = true := by decide +kernel
structure WiresP (l : List Int) (a n : Nat) : Prop where
  inA : l.all (inW n) = true
  tw : twiceF l = false
  len : l.length = n
  inT : (l.take a).all (inW n) = true
  twT : twiceF (l.take a) = false
  inD : (l.drop a).all (inW n) = true
  twD : twiceF (l.drop a) = false
  sp2 : ∀ k, k < 2 ^ n → (spW l k).2 = 0
  sp1 : ∀ k, k < 2 ^ n → (spW l k).1 = (spW (l.drop a) k).1 * 2 ^ a + (spW (l.take a) k).1
theorem wires_get {l : List Int} {a n : Nat} (h : wiresOk l a n = true) : WiresP l a n := by
  unfold wiresOk at h
  simp only [Bool.and_eq_true, Bool.not_eq_true', decide_eq_true_eq, List.all_eq_true, List.mem_range] at h
  obtain ⟨⟨⟨⟨⟨⟨⟨h1, h2⟩, h3⟩, h4⟩, h5⟩, h6⟩, h7⟩, h8⟩ := h
  exact ⟨List.all_eq_true.2 h1, h2, h3, List.all_eq_true.2 h4, h5, List.all_eq_true.2 h6, h7, fun k hk => Nat.eq_of_beq_eq_true (h8 k hk).1, fun k hk => Nat.eq_of_beq_eq_true (h8 k hk).2⟩
def idOk (n : Nat) : Bool := (rangeI n).all (inW n) && !twiceF (rangeI n) && (List.range (2 ^ n)).all fun k => Nat.beq (spW (rangeI n) k).2 0 && Nat.beq (spW (rangeI n) k).1 k
theorem id_all : ∀ n, n < 5 → idOk n = true := by decide +kernel
theorem id_get {n : Nat} (hn : n < 5) : (rangeI n).all (inW n) = true ∧ twiceF (rangeI n) = false ∧ ∀ k, k < 2 ^ n → (spW (rangeI n) k).2 = 0 ∧ (spW (rangeI n) k).1 = k := by
  have h := id_all n hn
  unfold idOk at h
  simp only [Bool.and_eq_true, Bool.not_eq_true', List.all_eq_true, List.mem_range] at h
  obtain ⟨⟨h1, h2⟩, h3⟩ := h
  exact ⟨List.all_eq_true.2 h1, h2, fun k hk => ⟨Nat.eq_of_beq_eq_true (h3 k hk).1, Nat.eq_of_beq_eq_true (h3 k hk).2⟩⟩
end Go.Proofs.YtmhnalikebkhjaaGreat


namespace Go.Proofs.YtmhnalikebkhjaaGreat
open Go.Proofs.YtmhnalikebkhjaaGreat.X Go.Proofs.YtmhnalikebkhjaaGreat.X.PH
set_option maxRecDepth 100000

theorem if_pz (c : Prop) [Decidable c] (d : Prop) [Decidable d] (A B : P4) : pz (if c then A else P4.zero) (if d then B else P4.zero) = if c ∧ d then pz A B else P4.zero := by
  by_cases hc : c
  · by_cases hd : d
    · rw [if_pos hc, if_pos hd, if_pos ⟨hc, hd⟩]
    · rw [if_neg hd, if_neg (fun h : c ∧ d => hd h.2), pz_zero]
  · rw [if_neg hc, if_neg (fun h : c ∧ d => hc h.1), zero_pz]
theorem midC_iff (i k j : (Nat × Nat) × (Nat × Nat)) : (i.1.2 = j.1.2 ∧ j.2.2 = k.2.2) ↔ midC i k j = true := by
  unfold midC
  rw [Bool.and_eq_true]
  exact ⟨fun h => ⟨by rw [h.1]; exact Nat.beq_refl _, by rw [h.2]; exact Nat.beq_refl _⟩, fun h => ⟨Nat.eq_of_beq_eq_true h.1, Nat.eq_of_beq_eq_true h.2⟩⟩
theorem midC2_iff (i k j : (Nat × Nat) × (Nat × Nat)) : (i.2.2 = j.2.2 ∧ j.1.2 = k.1.2) ↔ midC2 i k j = true := by
  unfold midC2
  rw [Bool.and_eq_true]
  exact ⟨fun h => ⟨by rw [h.1]; exact Nat.beq_refl _, by rw [h.2]; exact Nat.beq_refl _⟩, fun h => ⟨Nat.eq_of_beq_eq_true h.1, Nat.eq_of_beq_eq_true h.2⟩⟩
theorem apart_mul {x y : Mx} {a b : Nat} {l : List Int} (hx : MV 3 20 x (2 ^ a) (2 ^ a)) (hy : MV 3 20 y (2 ^ b) (2 ^ b)) (ha1 : 1 ≤ a) (ha2 : a ≤ 2) (hb1 : 1 ≤ b) (hb2 : b ≤ 2) (hl : l ∈ permsL (a + b)) :
    ∃ p q pq, onR x (l.take a) (a + b : Nat) = (p, 0) ∧ onR y (l.drop a) (a + b : Nat) = (q, 0) ∧ MulMF p q = (pq, 0) ∧ MulMF q p = (pq, 0) ∧ MV 3 20 p (2 ^ (a + b)) (2 ^ (a + b)) ∧ MV 3 20 q (2 ^ (a + b)) (2 ^ (a + b)) ∧ MV 6 25600 pq (2 ^ (a + b)) (2 ^ (a + b)) ∧ ML pq ∧
      ∀ i k, i < 2 ^ (a + b) → k < 2 ^ (a + b) → ev 6 pq i k = pz (ev 3 x (spW (l.take a) i).1 (spW (l.take a) k).1) (ev 3 y (spW (l.drop a) i).1 (spW (l.drop a) k).1) := by
  have w := wires_get (wires_all (a + b) (by omega) l hl a (by omega) ha1 (by omega))
  have lt : (l.take a).length = a := by rw [List.length_take, w.len]; omega
  have ld : (l.drop a).length = b := by rw [List.length_drop, w.len]; omega
  have hn16 : 2 ^ (a + b) ≤ 16 := Nat.le_trans (Nat.pow_le_pow_right (by decide) (show a + b ≤ 4 by omega)) (by decide)
  obtain ⟨p, p1, p2, p3, p4⟩ := On_lv (m := x) (A := 20) (by decide) (ws := l.take a) (by rw [lt]; exact hx) (a + b) (by omega) w.inT w.twT (by omega)
  obtain ⟨q, q1, q2, q3, q4⟩ := On_lv (m := y) (A := 20) (by decide) (ws := l.drop a) (by rw [ld]; exact hy) (a + b) (by omega) w.inD w.twD (by omega)
  obtain ⟨pq, r1, r2, r3, r4⟩ := MulM_lv p2 q2 (by decide) (by decide) (by omega)
  obtain ⟨qp, s1, s2, s3, s4⟩ := MulM_lv q2 p2 (by decide) (by decide) (by omega)
  have k1 : ∀ i k, i < 2 ^ (a + b) → k < 2 ^ (a + b) → ev 6 pq i k = pz (ev 3 x (spW (l.take a) i).1 (spW (l.take a) k).1) (ev 3 y (spW (l.drop a) i).1 (spW (l.drop a) k).1) := by
    intro i k hi hk
    obtain ⟨j, j1, j2, j3⟩ := mid_get (mid_all (a + b) (by omega) l hl a (by omega) ha1 (by omega)) hi hk
    refine (r4 i k hi hk).trans ?_
    have e : ∀ t, t < 2 ^ (a + b) → pz (ev 3 p i t) (ev 3 q t k) = (fun t => if midC (gL l a i) (gL l a k) (gL l a t) = true then (fun j : (Nat × Nat) × (Nat × Nat) => pz (ev 3 x (gL l a i).1.1 j.1.1) (ev 3 y j.2.1 (gL l a k).2.1)) (gL l a t) else P4.zero) t := fun t ht => by
      rw [p4 i t hi ht, q4 t k ht hk, if_pz]
      dsimp only
      by_cases h : midC (gL l a i) (gL l a k) (gL l a t) = true
      · rw [if_pos h]
        exact if_pos ((midC_iff (gL l a i) (gL l a k) (gL l a t)).2 h)
      · rw [if_neg h]
        exact if_neg (fun q => h ((midC_iff (gL l a i) (gL l a k) (gL l a t)).1 q))
    refine (su_congr _ e).trans ((su_one (gL l a) (midC (gL l a i) (gL l a k)) (fun j => pz (ev 3 x (gL l a i).1.1 j.1.1) (ev 3 y j.2.1 (gL l a k).2.1)) j1).trans ?_)
    rw [j2, j3]
    rfl
  have k2 : ∀ i k, i < 2 ^ (a + b) → k < 2 ^ (a + b) → ev 6 qp i k = pz (ev 3 x (spW (l.take a) i).1 (spW (l.take a) k).1) (ev 3 y (spW (l.drop a) i).1 (spW (l.drop a) k).1) := by
    intro i k hi hk
    obtain ⟨j, j1, j2, j3⟩ := mid2_get (mid2_all (a + b) (by omega) l hl a (by omega) ha1 (by omega)) hi hk
    refine (s4 i k hi hk).trans ?_
    have e : ∀ t, t < 2 ^ (a + b) → pz (ev 3 q i t) (ev 3 p t k) = (fun t => if midC2 (gL l a i) (gL l a k) (gL l a t) = true then (fun j : (Nat × Nat) × (Nat × Nat) => pz (ev 3 y (gL l a i).2.1 j.2.1) (ev 3 x j.1.1 (gL l a k).1.1)) (gL l a t) else P4.zero) t := fun t ht => by
      rw [p4 t k ht hk, q4 i t hi ht, if_pz]
      dsimp only
      by_cases h : midC2 (gL l a i) (gL l a k) (gL l a t) = true
      · rw [if_pos h]
        exact if_pos ((midC2_iff (gL l a i) (gL l a k) (gL l a t)).2 h)
      · rw [if_neg h]
        exact if_neg (fun q => h ((midC2_iff (gL l a i) (gL l a k) (gL l a t)).1 q))
    refine (su_congr _ e).trans ((su_one (gL l a) (midC2 (gL l a i) (gL l a k)) (fun j => pz (ev 3 y (gL l a i).2.1 j.2.1) (ev 3 x j.1.1 (gL l a k).1.1)) j1).trans ?_)
    rw [j2, j3]
    exact pz_comm _ _
  have e : qp = pq := mx_ext s2 r2 s3 r3 fun i k hi hk => (k2 i k hi hk).trans (k1 i k hi hk).symm
  exact ⟨p, q, pq, p1, q1, r1, by rw [s1, e], p2, q2, r2.mono (by omega), r3, k1⟩
theorem apart_kron {x y pq : Mx} {a b : Nat} {l : List Int} (hx : MV 3 20 x (2 ^ a) (2 ^ a)) (hy : MV 3 20 y (2 ^ b) (2 ^ b)) (ha1 : 1 ≤ a) (ha2 : a ≤ 2) (hb1 : 1 ≤ b) (hb2 : b ≤ 2) (hl : l ∈ permsL (a + b)) (hpq : MV 6 25600 pq (2 ^ (a + b)) (2 ^ (a + b))) (lpq : ML pq)
    (h : ∀ i k, i < 2 ^ (a + b) → k < 2 ^ (a + b) → ev 6 pq i k = pz (ev 3 x (spW (l.take a) i).1 (spW (l.take a) k).1) (ev 3 y (spW (l.drop a) i).1 (spW (l.drop a) k).1)) :
    ∃ kr, KronMF y x = (kr, 0) ∧ onR kr l (a + b : Nat) = (pq, 0) ∧ onR kr (rangeI (a + b)) (a + b : Nat) = (kr, 0) ∧ MV 6 1600 kr (2 ^ (a + b)) (2 ^ (a + b)) := by
  have w := wires_get (wires_all (a + b) (by omega) l hl a (by omega) ha1 (by omega))
  obtain ⟨i1, i2, i3⟩ := id_get (n := a + b) (by omega)
  have hn16 : 2 ^ (a + b) ≤ 16 := Nat.le_trans (Nat.pow_le_pow_right (by decide) (show a + b ≤ 4 by omega)) (by decide)
  have hp : 2 ^ b * 2 ^ a = 2 ^ (a + b) := by rw [← Nat.pow_add, Nat.add_comm]
  have pa : 0 < 2 ^ a := Nat.pow_pos (by decide)
  obtain ⟨kr, p1, p2, p3, p4⟩ := KronM_lv hy hx (by decide) (by decide) (by omega) (by omega)
  rw [hp] at p2 p4
  have p2 : MV 6 1600 kr (2 ^ (a + b)) (2 ^ (a + b)) := p2
  obtain ⟨o, q1, q2, q3, q4⟩ := On_lv (m := kr) (A := 1600) (by decide) (ws := l) (by rw [w.len]; exact p2) (a + b) (by omega) w.inA w.tw (by rw [w.len]; omega)
  obtain ⟨s, r1, r2, r3, r4⟩ := On_lv (m := kr) (A := 1600) (by decide) (ws := rangeI (a + b)) (by rw [rangeI_len]; exact p2) (a + b) (by omega) i1 i2 (by rw [rangeI_len]; omega)
  have eo : o = pq := by
    refine mx_ext q2 hpq q3 lpq fun i k hi hk => ?_
    have hin : ∀ i, i < 2 ^ (a + b) → (spW l i).1 < 2 ^ (a + b) := fun i hi => by
      have := (spW_eq (n := a + b) (by omega) w.inA (by rw [w.len]; omega) (k := i) (by omega)).2
      rwa [w.len] at this
    have hX : ∀ i, i < 2 ^ (a + b) → (spW (l.take a) i).1 < 2 ^ a := fun i hi => by
      have := (spW_eq (n := a + b) (by omega) w.inT (by rw [List.length_take, w.len]; omega) (k := i) (by omega)).2
      rwa [List.length_take, w.len, Nat.min_eq_left (by omega)] at this
    rw [q4 i k hi hk, w.sp2 i hi, w.sp2 k hk, if_pos rfl, h i k hi hk]
    refine (p4 _ _ (hin i hi) (hin k hk)).trans ?_
    rw [w.sp1 i hi, w.sp1 k hk, (divmod (hX i hi)).1, (divmod (hX i hi)).2, (divmod (hX k hk)).1, (divmod (hX k hk)).2]
    exact pz_comm _ _
  have es : s = kr := by
    refine mx_ext r2 p2 r3 p3 fun i k hi hk => ?_
    rw [r4 i k hi hk, (i3 i hi).1, (i3 k hk).1, if_pos rfl, (i3 i hi).2, (i3 k hk).2]
  exact ⟨kr, p1, by rw [q1, eo], by rw [r1, es], p2⟩

/-! ### two wires exchanged -/
instance (p : P4) (n : Int) : Decidable (p.within n) := by unfold P4.within; exact inferInstance
instance : DecidableEq P4 := fun p q => if h : p.a = q.a ∧ p.b = q.b ∧ p.c = q.c ∧ p.d = q.d then isTrue (P4.ext' h.1 h.2.1 h.2.2.1 h.2.2.2) else isFalse fun e => h (by rw [e]; exact ⟨rfl, rfl, rfl, rfl⟩)
def sw4 : Nat → Nat
  | 1 => 2
  | 2 => 1
  | k => k
def one4 : P4 := ⟨1, 0, 0, 0⟩
theorem one_pz (p : P4) : pz one4 p = p := by unfold pz one4; apply P4.ext' <;> dsimp only <;> omega
theorem pz_one (p : P4) : pz p one4 = p := by rw [pz_comm, one_pz]
theorem swap_MV : MV 0 1 (opM 11) 4 4 := by
  refine ⟨⟨by decide +kernel, by decide +kernel, by decide +kernel, by decide +kernel, by decide +kernel⟩, by decide +kernel, by decide +kernel, fun i k hi hk => ?_⟩
  have : ∀ i, i < 4 → ∀ k, k < 4 → checkF (entry (opM 11) i k).1 (entry (opM 11) i k).2 = 0 ∧ (entry (opM 11) i k).2 ≤ 0 ∧ (lv 0 (entry (opM 11) i k)).within 1 := by decide +kernel
  exact ⟨(this i hi k hk).1, (this i hi k hk).2.1, (this i hi k hk).2.2⟩
theorem swap_ev : ∀ i, i < 4 → ∀ k, k < 4 → ev 0 (opM 11) i k = if i = sw4 k then one4 else P4.zero := by decide +kernel
theorem sw_two : ([1, 0] : List Int).all (inW (2 : Nat)) = true ∧ twiceF [1, 0] = false ∧ ∀ k, k < 4 → spW [1, 0] k = (sw4 k, 0) := by decide +kernel
theorem apart_swap {x : Mx} (hx : MV 3 20 x 4 4) : ∃ th one, onR x [1, 0] 2 = (th, 0) ∧ MulMF x (opM 11) = (one, 0) ∧ MulMF (opM 11) one = (th, 0) ∧ MV 3 20 th 4 4 ∧ MV 3 320 one 4 4 := by
  obtain ⟨w1, w2, w3⟩ := sw_two
  obtain ⟨th, p1, p2, p3, p4⟩ := On_lv (m := x) (A := 20) (by decide) (ws := [1, 0]) hx 2 (by decide) w1 w2 (by decide)
  obtain ⟨one, q1, q2, q3, q4⟩ := MulM_lv hx swap_MV (by decide) (by decide) (by omega)
  obtain ⟨be, r1, r2, r3, r4⟩ := MulM_lv swap_MV q2 (by decide) (by decide) (by omega)
  have e : be = th := by
    refine mx_ext r2 p2 r3 p3 fun i k hi hk => ?_
    rw [p4 i k hi hk, w3 i hi, w3 k hk, if_pos rfl]
    refine (r4 i k hi hk).trans ?_
    dsimp only
    have e1 : ∀ t, t < 4 → ev 3 one t k = ev 3 x t (sw4 k) := fun t ht => by
      refine (q4 t k ht hk).trans ?_
      rw [su_congr 4 fun s hs => by rw [swap_ev s hs k hk]]
      rcases (show k = 0 ∨ k = 1 ∨ k = 2 ∨ k = 3 by omega) with rfl | rfl | rfl | rfl <;> simp [su, sw4, pz_zero, pz_one, pl_zero, zero_pl]
    rw [su_congr 4 fun t ht => by rw [swap_ev i hi t ht, show ev (3 + 0) one t k = ev 3 x t (sw4 k) from e1 t ht]]
    rcases (show i = 0 ∨ i = 1 ∨ i = 2 ∨ i = 3 by omega) with rfl | rfl | rfl | rfl <;> simp [su, sw4, zero_pz, one_pz, pl_zero, zero_pl]
  exact ⟨th, one, p1, q1, by rw [r1, e], p2, q2⟩
end Go.Proofs.YtmhnalikebkhjaaGreat

namespace Go.Proofs.YtmhnalikebkhjaaGreat
open Go.Proofs.YtmhnalikebkhjaaGreat.X Go.Proofs.YtmhnalikebkhjaaGreat.X.PH
set_option maxRecDepth 100000

theorem rangeI_pos {l : List Int} {n : Nat} (hp : l.Perm (rangeI n)) : l.length = n := by have := hp.length_eq; rwa [rangeI_len] at this
/-- The order, that nobody changes any more. -/
theorem c62' (n : Nat) (h1 : 0 < n) (hn : n ≤ 100) (N b : Nat) (hN : N < 4611686018427380000) (H O : PH) (h : StO H O b N) :
    Cl Tryz.prog 8 [.pointer (some ⟨b, 0, none⟩), .int .i64 n] H O fun r H' O' => ∃ (l : List Int) (b' cap : Nat) (sp : List Value), r = .slice (some ⟨b', 0, none⟩) n cap ∧ n ≤ cap ∧ H' b' = some (.cells ⟨l.map (fun x => Value.int .i64 x) ++ sp⟩ 3 (0, 0)) ∧ l.Perm (rangeI n) ∧ StO H' O' b (N + n) :=
  (c62 n hn N b hN H O h).repart fun r H' O' _ hd ⟨l, hv, hp, hs⟩ => by
    have hl := rangeI_pos hp
    obtain ⟨⟨g1, g2⟩, g3⟩ := hv
    rcases g2 with ⟨e, g⟩ | ⟨b', cap, sp, e, ho, q⟩
    · exfalso
      have : l = [] := by simpa using g
      subst this
      simp at hl
      omega
    · rw [flat_oneI] at ho
      have q2 : n ≤ cap := by have := q.1; simp at this; omega
      have e2 : r = .slice (some ⟨b', 0, none⟩) n cap := by rw [e]; simp [hl]
      refine ⟨_, _, Repart.one hd ho, l, b', cap, sp, e2, q2, ins_same _ _ _, hp, ?_⟩
      have hne := hs.ne ho (by decide)
      exact (hs.up (sub_ins _ _ ((hd b').resolve_right (by rw [ho]; simp)))).keep fun c hc => (del_ne _ hne.symm).trans hc
theorem ints_at {H : PH} {b' : Nat} {l : List Int} {sp : List Value} {t : TypeId} {fr : Nat × Nat} (h : H b' = some (.cells ⟨l.map (fun x => Value.int .i64 x) ++ sp⟩ t fr)) {base : Option Addr} {lo n c : Nat} {k : List Int} (hb : base = some ⟨b', lo, none⟩) (hk : k = (l.drop lo).take n) (hn : lo + n ≤ l.length) : IntsH H (.slice base n c) k := by
  subst hk
  have hl : ((l.drop lo).take n).length = n := by rw [List.length_take, List.length_drop]; omega
  refine ⟨base, c, by rw [hl], .inr ⟨b', lo, _, _, _, hb, h, ?_⟩⟩
  show ((l.map (fun x => Value.int .i64 x) ++ sp).drop lo).take (((l.drop lo).take n).map fun a => Value.int .i64 a).length = _
  rw [List.length_map, hl, List.drop_append_of_le_length (by simp; omega), List.take_append_of_le_length (by simp; omega)]
  simp [List.map_take, List.map_drop]
theorem c22r (m : Mx) (hlm : m.length < 1000000) (ws : List Int) (hws : ws.length < 100000) (n : Int) (H : PH) (u v : Value) (hu : MatH H u m) (hv : IntsH H v ws) :
    Cl Tryz.prog 9 [u, v, .int .i64 n] H emp fun r H' _ => OutH H' r (onR m ws n) := Cl.outH (c22o m hlm ws hws n H u v hu hv)
theorem c22eq {p : Mx} {m : Mx} {ws : List Int} {n : Int} (e : onR m ws n = (p, 0)) (hlm : m.length < 1000000) (hws : ws.length < 100000) {H : PH} {u v : Value} (hu : MatH H u m) (hv : IntsH H v ws) :
    Cl Tryz.prog 9 [u, v, .int .i64 n] H emp fun r H' _ => OutH H' r (p, 0) := by
  rw [← e]
  exact c22r m hlm ws hws n H u v hu hv
theorem c21r (k : Int) (H : PH) : Cl Tryz.prog 13 [.int .i64 k] H emp fun r H' _ => OutH H' r (OfR k) := Cl.outH (c21m k H)
theorem c21eq {p : Mx} {k : Int} (e : OfR k = (p, 0)) {H : PH} : Cl Tryz.prog 13 [.int .i64 k] H emp fun r H' _ => OutH H' r (p, 0) := by
  rw [← e]
  exact c21r k H
theorem shl_one {a : Nat} (h : a ≤ 60) : IntKind.i64.wrap (1 * 2 ^ (min (a : Int).toNat IntKind.i64.bits)) = ((2 ^ a : Nat) : Int) := shl1 h
def OrdO (O : PH) (v : Value) (n : Nat) : Prop := OwnS O 1 3 v ((rangeI n).map fun x => [Value.int .i64 x])
theorem OrdO.pub {O : PH} {v : Value} {n : Nat} (h : OrdO O v n) (h1 : 0 < n) : ∃ b cap sp, v = .slice (some ⟨b, 0, none⟩) n cap ∧ O b = some (.cells ⟨(rangeI n).map (fun x => Value.int .i64 x) ++ sp⟩ 3 (0, 0)) := by
  obtain ⟨_, h⟩ := h
  have hl := rangeI_len n
  rcases h with ⟨e, g⟩ | ⟨b', cap, sp, e, ho, q⟩
  · exfalso
    have : rangeI n = [] := by simpa using g
    rw [this] at hl
    simp at hl
    omega
  · rw [flat_oneI] at ho
    exact ⟨b', cap, sp, by rw [e]; simp [hl], ho⟩
theorem Cl.dis {P : Program} {f : FuncId} {args : List Value} {H M : PH} {Q : Value → PH → PH → Prop} (he : Ent P f) (h : Dis H M → Cl P f args H M Q) : Cl P f args H M Q := by
  unfold Cl at *
  exact ⟨he, fun w a b d => (h d).2 w a b d⟩
theorem ent9 : Ent Tryz.prog 9 := fun args w => by
  have := Tryz.func9
  simp [callFunc, this, Tryz.f9]
set_option maxHeartbeats 4000000 in
theorem c11 (l : List Int) (base : Option Addr) (cap : Nat) (hcap : l.length ≤ cap) (hlen : l.length < 9223372036854775808) (H : PH) (hv : BytesH H (.slice base l.length cap) l) : Cl Tryz.prog 3 [.slice base l.length cap] H emp fun r _ _ => r = .bool true := by
  refine Cl_of (pol := fun | 139 => .imm | 163 => .imm | _ => .loc) Γok Tryz.func3 (by kernel_rfl) rfl ?_
  conv => whnf
  refine (c49 l base cap hcap hlen _ hv).mono fun r H1 O1 s1 hr => ?_
  obtain ⟨bk, rfl, st⟩ := hr
  conv => whnf
  refine (c50 1 2 (by decide) (by decide) (by decide) (0) bk (by omega) _ _ st).mono fun r H2 O2 s2 hr => ?_
  obtain ⟨a, rfl, ha, _, st⟩ := hr
  obtain ⟨a, rfl⟩ := nat_of (a := a) (by omega)
  conv => whnf
  refine (c50 1 2 (by decide) (by decide) (by decide) (0 + 1) bk (by omega) _ _ st).mono fun r H3 O3 s3 hr => ?_
  obtain ⟨b, rfl, hb, _, st⟩ := hr
  obtain ⟨b, rfl⟩ := nat_of (a := b) (by omega)
  conv => whnf
  have pa : 2 ^ a ≤ 4 ∧ 0 < 2 ^ a := by rcases (show a = 1 ∨ a = 2 by omega) with rfl | rfl <;> decide
  have pb : 2 ^ b ≤ 4 ∧ 0 < 2 ^ b := by rcases (show b = 1 ∨ b = 2 by omega) with rfl | rfl <;> decide
  refine W_draw (pol := fun | 139 => .imm | 163 => .imm | _ => .loc) Γok mixes [(0, .pendO), (1, .pendO), (2, .pendO), (3, .pendO), (4, .pendO), (6, .pend), (7, .pend), (8, .pend), (9, .pend), (10, .pend), (5, .lock), (11, .lock), (12, .pendO), (13, .pendO)] 205 (by kernel_rfl) rfl ?_
  conv => whnf
  rw [shl_one (a := a) (by omega)]
  refine (c51' (2 ^ a) (2 ^ a) (by omega) (by omega) (0 + 1 + 1) bk (by omega) _ _ st).mono fun r H4 O4 s4 hr => ?_
  obtain ⟨x, hx, mx, st⟩ := hr
  replace mx := small_MV mx (by omega) (by omega) (by omega) (by omega)
  conv => whnf
  rw [shl_one (a := b) (by omega)]
  refine (c51' (2 ^ b) (2 ^ b) (by omega) (by omega) (0 + 1 + 1 + 320 * (2 ^ a)) bk (by omega) _ _ st).mono fun r H5 O5 s5 hr => ?_
  obtain ⟨y, hy, my, st⟩ := hr
  replace hx := hx.up s5
  replace my := small_MV my (by omega) (by omega) (by omega) (by omega)
  conv => whnf
  rw [wrap_id (n := (a : Int) + b) (by omega) (by omega), show (a : Int) + b = ((a + b : Nat) : Int) from rfl]
  refine (c62' (a + b) (by omega) (by omega) (0 + 1 + 1 + 320 * (2 ^ a) + 320 * (2 ^ b)) bk (by omega) _ _ st).mono fun r H6 O6 s6 hr => ?_
  obtain ⟨l0, bw, wc, sp, rfl, hwc, hw, hperm, st⟩ := hr
  replace hx := hx.up s6
  replace hy := hy.up s6
  have hl0 := rangeI_pos hperm
  have hlp := perm_mem hperm
  obtain ⟨p, q, pq, e1, e2, e3, e4, mp, mq, mpq, lpq, lawpq⟩ := apart_mul mx my (by omega) (by omega) (by omega) (by omega) hlp
  obtain ⟨kr, f1, f2, f3, mkr⟩ := apart_kron mx my (by omega) (by omega) (by omega) (by omega) hlp mpq lpq lawpq
  conv => whnf
  refine dec_intro (by omega) ?_
  conv => whnf
  rw [wrap_id (n := (a : Int) + b) (by omega) (by omega)]
  refine (c22eq e1 mx.lens.1 (by rw [List.length_take]; omega) hx (ints_at hw (lo := 0) (n := a) (by split <;> simp [Addr.add]) (by simp) (by omega))).use fun r H7 s7 hr => ?_
  obtain ⟨_, vp, rfl, hp⟩ := hr
  obtain ⟨sb7, sc7, rfl⟩ := MatH.sl hp
  replace hx := hx.up s7
  replace hy := hy.up s7
  replace st := st.up s7
  replace hw := s7 _ _ hw
  conv => whnf
  refine dec_intro (by omega) ?_
  conv => whnf
  refine dec_intro (by omega) ?_
  conv => whnf
  rw [wrap_id (n := (a : Int) + b) (by omega) (by omega)]
  refine (c22eq e2 my.lens.1 (by rw [List.length_drop]; omega) hy (ints_at hw (lo := a) (by have := ha.1; rw [if_neg (by omega)]; simp [Addr.add] <;> omega) (by rw [List.take_of_length_le (by rw [List.length_drop]; omega)]) (by omega))).use fun r H8 s8 hr => ?_
  obtain ⟨_, vq, rfl, hq⟩ := hr
  obtain ⟨sb8, sc8, rfl⟩ := MatH.sl hq
  replace hx := hx.up s8
  replace hy := hy.up s8
  replace st := st.up s8
  replace hp := hp.up s8
  replace hw := s8 _ _ hw
  conv => whnf
  have hc9 := Cl.outH (c40q p q mp.lens.1 mq.lens.1 _ _ _ hp hq)
  rw [e3] at hc9
  refine hc9.use fun r H9 s9 hr => ?_
  obtain ⟨_, vpq, rfl, hpq⟩ := hr
  clear hc9
  obtain ⟨sb9, sc9, rfl⟩ := MatH.sl hpq
  replace hx := hx.up s9
  replace hy := hy.up s9
  replace st := st.up s9
  replace hp := hp.up s9
  replace hq := hq.up s9
  replace hw := s9 _ _ hw
  conv => whnf
  have hc10 := Cl.outH (c40q q p mq.lens.1 mp.lens.1 _ _ _ hq hp)
  rw [e4] at hc10
  refine hc10.use fun r H10 s10 hr => ?_
  obtain ⟨_, vqp, rfl, hqp⟩ := hr
  clear hc10
  obtain ⟨sb10, sc10, rfl⟩ := MatH.sl hqp
  replace hx := hx.up s10
  replace hy := hy.up s10
  replace st := st.up s10
  replace hp := hp.up s10
  replace hq := hq.up s10
  replace hpq := hpq.up s10
  replace hw := s10 _ _ hw
  conv => whnf
  refine (c52 pq pq _ _ _ hpq hqp (by have := mpq.lens.1; omega) mpq.lens.2).val fun H11 s11 => ?_
  replace hx := hx.up s11
  replace hy := hy.up s11
  replace st := st.up s11
  replace hp := hp.up s11
  replace hq := hq.up s11
  replace hpq := hpq.up s11
  replace hqp := hqp.up s11
  replace hw := s11 _ _ hw
  rw [eqM_refl]
  conv => whnf
  have hc12 := Cl.outH (c41q y x my.lens.1 mx.lens.1 _ _ _ hy hx)
  rw [f1] at hc12
  refine hc12.use fun r H12 s12 hr => ?_
  obtain ⟨_, vkr, rfl, hkr⟩ := hr
  clear hc12
  obtain ⟨sb12, sc12, rfl⟩ := MatH.sl hkr
  replace hx := hx.up s12
  replace hy := hy.up s12
  replace st := st.up s12
  replace hp := hp.up s12
  replace hq := hq.up s12
  replace hpq := hpq.up s12
  replace hqp := hqp.up s12
  replace hw := s12 _ _ hw
  conv => whnf
  rw [wrap_id (n := (a : Int) + b) (by omega) (by omega)]
  refine (c22eq f2 mkr.lens.1 (by omega) hkr (ints_at hw (lo := 0) (n := a + b) rfl (by rw [List.drop_zero, List.take_of_length_le (by omega)]) (by omega))).use fun r H13 s13 hr => ?_
  obtain ⟨_, von, rfl, hon⟩ := hr
  obtain ⟨sb13, sc13, rfl⟩ := MatH.sl hon
  replace hx := hx.up s13
  replace hy := hy.up s13
  replace st := st.up s13
  replace hp := hp.up s13
  replace hq := hq.up s13
  replace hpq := hpq.up s13
  replace hqp := hqp.up s13
  replace hkr := hkr.up s13
  replace hw := s13 _ _ hw
  conv => whnf
  refine (c52 pq pq _ _ _ hon hpq (by have := mpq.lens.1; omega) mpq.lens.2).val fun H14 s14 => ?_
  replace hx := hx.up s14
  replace hy := hy.up s14
  replace st := st.up s14
  replace hp := hp.up s14
  replace hq := hq.up s14
  replace hpq := hpq.up s14
  replace hqp := hqp.up s14
  replace hkr := hkr.up s14
  replace hon := hon.up s14
  replace hw := s14 _ _ hw
  rw [eqM_refl]
  conv => whnf
  rw [wrap_id (n := (a : Int) + b) (by omega) (by omega)]
  refine W_loop (pol := fun | 139 => .imm | 163 => .imm | _ => .loc) Γok (Nat × PH × Value × PH) (fun i => i.1 ≤ a + b ∧ Sub H14 i.2.1 ∧ OrdO i.2.2.2 i.2.2.1 i.1 ∧ StO i.2.1 i.2.2.2 bk (0 + 1 + 1 + 320 * (2 ^ a) + 320 * (2 ^ b) + (a + b))) (fun i => a + b - i.1) (fun i => [(19, .v i.2.2.1), (134, .v (.int .i64 i.1))]) (fun _ => []) (fun i => i.2.1) (fun i => i.2.2.2) ⟨(0, H14, .slice none 0 0, O6), ⟨by simp, Sub.refl _, ⟨by simp [rangeI], .inl ⟨rfl, rfl⟩⟩, st⟩, rfl, rfl, ?_⟩ ?_
  · conv => whnf
    repeat (refine ⟨rfl, ?_⟩; conv => whnf)
    exact trivial
  rintro ⟨i, Hi, v, Oi⟩ ⟨h1, hsi, ho, sti⟩
  dsimp only at h1 hsi ho sti
  conv => whnf
  refine if_intro (fun hc => ?_) (fun hc => ?_)
  · have hi : i < a + b := by
      have := of_decide_eq_true hc
      omega
    conv => whnf
    intro b2 hb2 hO2
    conv => whnf
    refine append_one' (xs := (rangeI i).map fun x => [Value.int .i64 x]) (y := [.int .i64 i]) ho rfl rfl (by intro v hv; simp at hv; subst hv; rfl) ⟨_, _, _, rfl, rfl, Rd.whole (ins_same _ _ _)⟩ ?_ fun v2 O4 hO4 hk => ?_
    · simp [rangeI_len]
      omega
    conv => whnf
    have s5 := sub_ins Hi (.cells ⟨[.int .i64 i]⟩ 3 (0, 0)) hb2
    refine ⟨(i + 1, ins Hi b2 (.cells ⟨[.int .i64 i]⟩ 3 (0, 0)), v2, O4), ⟨by dsimp only; omega, hsi.trans s5, ?_, (sti.up s5).keep fun c hn => hk _ _ hn fun cap => OwnS.not_at ho hn (by decide) _ _⟩, by dsimp only; omega, ?_⟩
    · show OwnS O4 1 3 v2 ((rangeI (i + 1)).map _)
      rw [rangeI_succ, List.map_append]
      exact hO4
    · refine ⟨rfl, rfl, ?_⟩
      conv => whnf
      repeat (refine ⟨rfl, ?_⟩; conv => whnf)
      refine ⟨by show En.v (.int .i64 (IntKind.i64.wrap (i + 1))) = _; rw [wrap_id (by omega) (by omega)]; rfl, ?_⟩
      conv => whnf
      repeat (refine ⟨rfl, ?_⟩; conv => whnf)
      exact trivial
  have hi : i = a + b := by
    have := of_decide_eq_false hc
    omega
  subst hi
  replace st := sti
  obtain ⟨b3, cap3, sp3, rfl, hO3⟩ := ho.pub (by omega)
  conv => whnf
  rw [wrap_id (n := (a : Int) + b) (by omega) (by omega)]
  refine Cl.dis ent9 fun hd3 => ?_
  refine Cl.publish b3 _ hO3 ?_
  have hne3 := st.ne hO3 (by decide)
  have s3' := sub_ins Hi (.cells ⟨(rangeI (a + b)).map (fun x => Value.int .i64 x) ++ sp3⟩ 3 (0, 0)) ((hd3 b3).resolve_right (by show ¬ Oi b3 = none; rw [hO3]; simp))
  replace st := (st.up s3').keep (O' := del Oi b3) fun c hc => (del_ne _ hne3.symm).trans hc
  replace hx := hx.up (hsi.trans s3')
  replace hy := hy.up (hsi.trans s3')
  replace hp := hp.up (hsi.trans s3')
  replace hq := hq.up (hsi.trans s3')
  replace hpq := hpq.up (hsi.trans s3')
  replace hqp := hqp.up (hsi.trans s3')
  replace hkr := hkr.up (hsi.trans s3')
  replace hon := hon.up (hsi.trans s3')
  replace hw := (hsi.trans s3') _ _ hw
  clear hw
  refine (c22eq f3 mkr.lens.1 (by rw [rangeI_len]; omega) hkr (ints_at (ins_same _ _ _) (lo := 0) (n := a + b) rfl (by rw [List.drop_zero, List.take_of_length_le (by rw [rangeI_len]; omega)]) (by rw [rangeI_len]; omega))).use fun r H15 s15 hr => ?_
  obtain ⟨_, vall, rfl, hall⟩ := hr
  obtain ⟨sb15, sc15, rfl⟩ := MatH.sl hall
  replace hx := hx.up s15
  replace hy := hy.up s15
  replace hp := hp.up s15
  replace hq := hq.up s15
  replace hpq := hpq.up s15
  replace hqp := hqp.up s15
  replace hkr := hkr.up s15
  replace hon := hon.up s15
  replace st := st.up s15
  conv => whnf
  refine (c52 kr kr _ _ _ hall hkr (by have := mkr.lens.1; omega) mkr.lens.2).val fun H16 s16 => ?_
  replace hx := hx.up s16
  replace hy := hy.up s16
  replace hp := hp.up s16
  replace hq := hq.up s16
  replace hpq := hpq.up s16
  replace hqp := hqp.up s16
  replace hkr := hkr.up s16
  replace hon := hon.up s16
  replace st := st.up s16
  replace hall := hall.up s16
  rw [eqM_refl]
  conv => whnf
  refine (c51' 4 4 (by omega) (by omega) (0 + 1 + 1 + 320 * (2 ^ a) + 320 * (2 ^ b) + (a + b)) bk (by omega) _ _ st).mono fun r H17 O17 s17 hr => ?_
  obtain ⟨two, htwo, mtwo, st⟩ := hr
  replace hx := hx.up s17
  replace hy := hy.up s17
  replace hp := hp.up s17
  replace hq := hq.up s17
  replace hpq := hpq.up s17
  replace hqp := hqp.up s17
  replace hkr := hkr.up s17
  replace hon := hon.up s17
  replace hall := hall.up s17
  replace mtwo := small_MV mtwo (by omega) (by omega) (by omega) (by omega)
  conv => whnf
  obtain ⟨th, one, g1, g2, g3, mth, mone⟩ := apart_swap mtwo
  have msw := swap_MV
  have eOf : OfR 11 = (opM 11, 0) := if_pos (by decide)
  intro b4 hb4 hO4
  have s4' := sub_ins _ (.cells ⟨[.int .i64 1, .int .i64 0]⟩ 3 (0, 0)) hb4
  conv => whnf
  replace hx := hx.up s4'
  replace hy := hy.up s4'
  replace hp := hp.up s4'
  replace hq := hq.up s4'
  replace hpq := hpq.up s4'
  replace hqp := hqp.up s4'
  replace hkr := hkr.up s4'
  replace hon := hon.up s4'
  replace hall := hall.up s4'
  replace htwo := htwo.up s4'
  replace st := st.up s4'
  refine (c22eq g1 mtwo.lens.1 (by decide) htwo (ints_at (l := [1, 0]) (sp := []) (ins_same _ _ _) (lo := 0) (n := 2) rfl rfl (by decide))).use fun r H18 s18 hr => ?_
  obtain ⟨_, vth, rfl, hth⟩ := hr
  obtain ⟨sb18, sc18, rfl⟩ := MatH.sl hth
  replace hx := hx.up s18
  replace hy := hy.up s18
  replace hp := hp.up s18
  replace hq := hq.up s18
  replace hpq := hpq.up s18
  replace hqp := hqp.up s18
  replace hkr := hkr.up s18
  replace hon := hon.up s18
  replace hall := hall.up s18
  replace htwo := htwo.up s18
  replace st := st.up s18
  conv => whnf
  refine (c21eq eOf).use fun r H19 s19 hr => ?_
  obtain ⟨_, vswap, rfl, hswap⟩ := hr
  obtain ⟨sb19, sc19, rfl⟩ := MatH.sl hswap
  replace hx := hx.up s19
  replace hy := hy.up s19
  replace hp := hp.up s19
  replace hq := hq.up s19
  replace hpq := hpq.up s19
  replace hqp := hqp.up s19
  replace hkr := hkr.up s19
  replace hon := hon.up s19
  replace hall := hall.up s19
  replace htwo := htwo.up s19
  replace st := st.up s19
  replace hth := hth.up s19
  conv => whnf
  have hc20 := Cl.outH (c40q two (opM 11) mtwo.lens.1 msw.lens.1 _ _ _ htwo hswap)
  rw [g2] at hc20
  refine hc20.use fun r H20 s20 hr => ?_
  obtain ⟨_, vone, rfl, hone⟩ := hr
  clear hc20
  obtain ⟨sb20, sc20, rfl⟩ := MatH.sl hone
  replace hx := hx.up s20
  replace hy := hy.up s20
  replace hp := hp.up s20
  replace hq := hq.up s20
  replace hpq := hpq.up s20
  replace hqp := hqp.up s20
  replace hkr := hkr.up s20
  replace hon := hon.up s20
  replace hall := hall.up s20
  replace htwo := htwo.up s20
  replace st := st.up s20
  replace hth := hth.up s20
  replace hswap := hswap.up s20
  conv => whnf
  have hc21 := Cl.outH (c40q (opM 11) one msw.lens.1 mone.lens.1 _ _ _ hswap hone)
  rw [g3] at hc21
  refine hc21.use fun r H21 s21 hr => ?_
  obtain ⟨_, vbe, rfl, hbe⟩ := hr
  clear hc21
  obtain ⟨sb21, sc21, rfl⟩ := MatH.sl hbe
  replace hx := hx.up s21
  replace hy := hy.up s21
  replace hp := hp.up s21
  replace hq := hq.up s21
  replace hpq := hpq.up s21
  replace hqp := hqp.up s21
  replace hkr := hkr.up s21
  replace hon := hon.up s21
  replace hall := hall.up s21
  replace htwo := htwo.up s21
  replace st := st.up s21
  replace hth := hth.up s21
  replace hswap := hswap.up s21
  replace hone := hone.up s21
  conv => whnf
  refine (c52 th th _ _ _ hth hbe (by have := mth.lens.1; omega) mth.lens.2).val fun H22 s22 => ?_
  replace hx := hx.up s22
  replace hy := hy.up s22
  replace hp := hp.up s22
  replace hq := hq.up s22
  replace hpq := hpq.up s22
  replace hqp := hqp.up s22
  replace hkr := hkr.up s22
  replace hon := hon.up s22
  replace hall := hall.up s22
  replace htwo := htwo.up s22
  replace st := st.up s22
  replace hth := hth.up s22
  replace hswap := hswap.up s22
  replace hone := hone.up s22
  replace hbe := hbe.up s22
  rw [eqM_refl]
  conv => whnf
  refine (c14 _).val fun H23 s23 => ?_
  replace hx := hx.up s23
  replace hy := hy.up s23
  replace hp := hp.up s23
  replace hq := hq.up s23
  replace hpq := hpq.up s23
  replace hqp := hqp.up s23
  replace hkr := hkr.up s23
  replace hon := hon.up s23
  replace hall := hall.up s23
  replace htwo := htwo.up s23
  replace st := st.up s23
  replace hth := hth.up s23
  replace hswap := hswap.up s23
  replace hone := hone.up s23
  replace hbe := hbe.up s23
  conv => whnf
end Go.Proofs.YtmhnalikebkhjaaGreat


namespace Go.Proofs.YtmhnalikebkhjaaGreat
open Go.Proofs.YtmhnalikebkhjaaGreat.X Go.Proofs.YtmhnalikebkhjaaGreat.X.PH Go.ChangeShapes Go.WideShapes Go.ChangeAt Go.RowKit Go.Deep
set_option maxRecDepth 100000

/-- A call that changes nothing, in a given world. -/
theorem Cl.calls {f : FuncId} {args : List Value} {W : World} {Q : Value → Prop} (h : Cl Tryz.prog f args (heapP W) emp fun v _ _ => Q v) : Calls Tryz.prog f args.toArray W fun e W' => ∃ v, e = .returned v ∧ Below W.heap.size W W' ∧ Q v := by
  unfold Cl at h
  refine (h.2 W (fun n o hn => hn) (fun n o hn => by cases hn) (.emp _)).mono ?_
  rintro e W' ⟨v, H', M', he, hp, hq⟩
  exact ⟨v, he, hp.frm.below, hq⟩

end Go.Proofs.YtmhnalikebkhjaaGreat


namespace Go.Proofs.YtmhnalikebkhjaaGreat
open Go.Proofs.YtmhnalikebkhjaaGreat.X Go.Proofs.YtmhnalikebkhjaaGreat.X.PH Go.ChangeShapes Go.WideShapes Go.ChangeAt Go.RowKit Go.Deep
set_option maxRecDepth 100000
section
variable {H : Type} {enc : TypeId × Value → H} {W : World}
/-- A number that is passed in. -/
theorem open_nv {r : Reach} {base : Nat} {v : Value} {d : DataW H} {p : List MemPlace} (hv : Value.okWide Tryz.prog W r base 36 v) (h : DataW.Trod enc Tryz.prog W 0 (fun _ => true) true 36 v d p) : ∃ y : P4 × Int, v = nv y := by
  obtain ⟨cs, rfl, _⟩ := okWide_struct Tryz.underlying36 hv
  obtain ⟨fuel, h⟩ := h
  obtain ⟨y, hy⟩ := open_num h
  refine ⟨y, ?_⟩
  obtain ⟨cs⟩ := cs
  have hy : cs = cellsOf y := hy
  rw [hy]
  rfl
end
end Go.Proofs.YtmhnalikebkhjaaGreat
