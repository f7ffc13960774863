/- A logic for code of the model, proved sound, and what functions do that the laws on matrices come to; nothing is asked. Part 7. -/
import Derived.Test.YtbbjhegapilhpaaGreatM6

set_option linter.unusedVariables false
set_option linter.unusedSimpArgs false
set_option linter.unnecessarySimpa false

namespace Go.Proofs.YtbbjhegapilhpaaGreat
open Go.Proofs.YtbbjhegapilhpaaGreat.X Go.Proofs.YtbbjhegapilhpaaGreat.X.PH
set_option maxRecDepth 100000

/-- The values of the first wires, as a number, and what is left: of the reference. -/
def takenF (ws : List Int) (a : Int) : Nat → Int × Int
  | 0 => (0, a)
  | j + 1 => if andI (takenF ws a j).2 (shlI 1 (ws.getD j 0)) ≠ 0 then (IntKind.i64.wrap ((takenF ws a j).1 + shlI 1 j), IntKind.i64.wrap ((takenF ws a j).2 - shlI 1 (ws.getD j 0))) else takenF ws a j
theorem neq_true {x : Int} (h : (!(x == 0)) = true) : x ≠ 0 := by simpa using h
theorem neq_false {x : Int} (h : (!(x == 0)) = false) : x = 0 := by simpa using h
theorem c71 (ws : List Int) (hlen : ws.length < 1000000) (hw : ∀ w ∈ ws, 0 ≤ w) (a : Int) (H : PH) (v : Value) (hv : IntsH H v ws) :
    Cl Tryz.prog 71 [.int .i64 a, v] H emp fun r _ _ => r = .tuple #[.int .i64 (takenF ws a ws.length).1, .int .i64 (takenF ws a ws.length).2] := by
  obtain ⟨base, cap, rfl, _⟩ := id hv
  refine Cl_of (pol := polL) Γok Tryz.func71 (by kernel_rfl) rfl ?_
  conv => whnf
  refine W_loop (pol := polL) Γok (Nat × PH) (fun i => i.1 ≤ ws.length ∧ Sub H i.2) (fun i => ws.length - i.1) (fun i => [(0, .v (.int .i64 (takenF ws a i.1).2)), (6, .v (.int .i64 (takenF ws a i.1).1)), (7, .v (.int .i64 i.1))]) (fun _ => []) (fun i => i.2) (fun _ => emp) ⟨(0, H), ⟨by simp, Sub.refl _⟩, rfl, rfl, ?_⟩ ?_
  · conv => whnf
    repeat (refine ⟨rfl, ?_⟩; conv => whnf)
    exact trivial
  · rintro ⟨i, H'⟩ ⟨h1, h2⟩
    dsimp only at h1 h2
    conv => whnf
    refine if_intro (fun hc => ?_) (fun hc => ?_)
    · have hi : i < ws.length := by simpa using hc
      obtain ⟨b, off, rfl, hx⟩ := IntsH.at hv hi
      have hwi := hw ws[i] (List.getElem_mem hi)
      have hg : ws.getD i 0 = ws[i] := by simp [List.getD_eq_getElem?_getD, hi]
      have st : takenF ws a (i + 1) = if andI (takenF ws a i).2 (shlI 1 ws[i]) ≠ 0 then (IntKind.i64.wrap ((takenF ws a i).1 + shlI 1 i), IntKind.i64.wrap ((takenF ws a i).2 - shlI 1 ws[i])) else takenF ws a i := by rw [← hg]; rfl
      conv => whnf
      refine dec_intro (by omega) ?_
      conv => whnf
      refine ⟨_, hx _ _ h2, ?_⟩
      conv => whnf
      refine dec_intro hwi ?_
      conv => whnf
      refine if_intro (fun hq => ?_) (fun hq => ?_)
      · have hq : andI (takenF ws a i).2 (shlI 1 ws[i]) ≠ 0 := neq_true hq
        rw [if_pos hq] at st
        conv => whnf
        refine dec_intro (by omega) ?_
        conv => whnf
        refine ⟨_, hx _ _ h2, ?_⟩
        conv => whnf
        refine dec_intro hwi ?_
        conv => whnf
        refine ⟨(i + 1, H'), ⟨hi, h2⟩, by dsimp only; omega, ?_⟩
        refine ⟨rfl, rfl, ?_⟩
        conv => whnf
        refine ⟨by dsimp only; rw [st] <;> rfl, ?_⟩
        conv => whnf
        repeat (refine ⟨rfl, ?_⟩; conv => whnf)
        refine ⟨by dsimp only; rw [st] <;> rfl, ?_⟩
        conv => whnf
        refine ⟨by show En.v (.int .i64 (IntKind.i64.wrap (i + 1))) = _; rw [wrap_id (by omega) (by omega)]; rfl, ?_⟩
        conv => whnf
        repeat (refine ⟨rfl, ?_⟩; conv => whnf)
        exact trivial
      · have hq : andI (takenF ws a i).2 (shlI 1 ws[i]) = 0 := neq_false hq
        rw [if_neg (fun h => h hq)] at st
        conv => whnf
        refine ⟨(i + 1, H'), ⟨hi, h2⟩, by dsimp only; omega, ?_⟩
        refine ⟨rfl, rfl, ?_⟩
        conv => whnf
        refine ⟨by dsimp only; rw [st] <;> rfl, ?_⟩
        conv => whnf
        repeat (refine ⟨rfl, ?_⟩; conv => whnf)
        refine ⟨by dsimp only; rw [st] <;> rfl, ?_⟩
        conv => whnf
        refine ⟨by show En.v (.int .i64 (IntKind.i64.wrap (i + 1))) = _; rw [wrap_id (by omega) (by omega)]; rfl, ?_⟩
        conv => whnf
        repeat (refine ⟨rfl, ?_⟩; conv => whnf)
        exact trivial
    · have hi : i = ws.length := by
        have h := of_decide_eq_false hc
        omega
      subst hi
      conv => whnf
end Go.Proofs.YtbbjhegapilhpaaGreat

namespace Go.Proofs.YtbbjhegapilhpaaGreat
open Go.Proofs.YtbbjhegapilhpaaGreat.X Go.Proofs.YtbbjhegapilhpaaGreat.X.PH
set_option maxRecDepth 100000

/-- A bit is cleared. -/
def clB (k w : Nat) : Nat := if k.testBit w then k - 2 ^ w else k
theorem clB_lt : ∀ k, k < 64 → ∀ w, w < 6 → clB k w < 64 := by decide +kernel
theorem clB_bit : ∀ k, k < 64 → ∀ w, w < 6 → ∀ p, p < 6 → p ≠ w → (clB k w).testBit p = k.testBit p := by decide +kernel
theorem clB_comm : ∀ k, k < 64 → ∀ w, w < 6 → ∀ p, p < 6 → clB (clB k w) p = clB (clB k p) w := by decide +kernel
theorem clB_not : ∀ k : Nat, k < 64 → ∀ w : Nat, w < 6 → andNotI (k : Int) (shlI 1 (w : Int)) = (clB k w : Int) := by decide +kernel
theorem bit_shr : ∀ k : Nat, k < 64 → ∀ w : Nat, w < 6 → andI (shrI (k : Int) (w : Int)) 1 = if k.testBit w then 1 else 0 := by decide +kernel
theorem bit_and : ∀ k : Nat, k < 64 → ∀ w : Nat, w < 6 → (andI (k : Int) (shlI 1 (w : Int)) = 0 ↔ k.testBit w = false) := by decide +kernel
theorem sub_bit : ∀ k : Nat, k < 64 → ∀ w : Nat, w < 6 → k.testBit w = true → IntKind.i64.wrap ((k : Int) - shlI 1 (w : Int)) = (clB k w : Int) := by decide +kernel
theorem add_bit : ∀ j : Nat, j < 6 → ∀ v : Nat, v < 2 ^ j → IntKind.i64.wrap ((v : Int) + shlI 1 (j : Int)) = ((v + 2 ^ j : Nat) : Int) := by decide +kernel
theorem or_bit : ∀ j : Nat, j < 6 → ∀ v : Nat, v < 2 ^ j → orI (v : Int) (shlI 1 (j : Int)) = ((v + 2 ^ j : Nat) : Int) := by decide +kernel
theorem or_no : ∀ j : Nat, j < 6 → ∀ v : Nat, v < 2 ^ j → orI (v : Int) (shlI 0 (j : Int)) = (v : Int) := by decide +kernel
/-- The values of the first wires, and what is left. -/
def spl (wn : Nat → Nat) : Nat → Nat → Nat × Nat
  | 0, k => (0, k)
  | j + 1, k => ((spl wn j (clB k (wn j))).1 + (if k.testBit (wn j) then 2 ^ j else 0), (spl wn j (clB k (wn j))).2)
theorem spl_lt (wn : Nat → Nat) (hw : ∀ j, wn j < 6) : ∀ j k, k < 64 → (spl wn j k).1 < 2 ^ j ∧ (spl wn j k).2 < 64
  | 0, k, h => ⟨by simp [spl], h⟩
  | j + 1, k, h => by
    obtain ⟨h1, h2⟩ := spl_lt wn hw j _ (clB_lt k h (wn j) (hw j))
    refine ⟨?_, h2⟩
    simp only [spl, Nat.pow_succ]
    split <;> omega
theorem spl_bit (wn : Nat → Nat) (hw : ∀ j, wn j < 6) {p : Nat} (hp : p < 6) : ∀ j k, k < 64 → (∀ i, i < j → wn i ≠ p) → (spl wn j k).2.testBit p = k.testBit p
  | 0, k, _, _ => rfl
  | j + 1, k, h, hn => by
    have ih := spl_bit wn hw hp j _ (clB_lt k h (wn j) (hw j)) fun i hi => hn i (by omega)
    simp only [spl]
    rw [ih, clB_bit k h _ (hw j) p hp (hn j (by omega)).symm]
theorem spl_cl (wn : Nat → Nat) (hw : ∀ j, wn j < 6) {p : Nat} (hp : p < 6) : ∀ j k, k < 64 → (∀ i, i < j → wn i ≠ p) → spl wn j (clB k p) = ((spl wn j k).1, clB (spl wn j k).2 p)
  | 0, k, _, _ => rfl
  | j + 1, k, h, hn => by
    have ih := spl_cl wn hw hp j _ (clB_lt k h (wn j) (hw j)) fun i hi => hn i (by omega)
    simp only [spl]
    rw [clB_comm k h p hp _ (hw j), ih, clB_bit k h p hp _ (hw j) (hn j (by omega))]
theorem spl_succ (wn : Nat → Nat) (hw : ∀ j, wn j < 6) (j k : Nat) (h : k < 64) (hn : ∀ i, i < j → wn i ≠ wn j) : spl wn (j + 1) k = ((spl wn j k).1 + (if (spl wn j k).2.testBit (wn j) then 2 ^ j else 0), clB (spl wn j k).2 (wn j)) := by
  rw [spl_bit wn hw (hw j) j k h hn]
  show ((spl wn j (clB k (wn j))).1 + (if k.testBit (wn j) then 2 ^ j else 0), (spl wn j (clB k (wn j))).2) = _
  rw [spl_cl wn hw (hw j) j k h hn]
theorem split_spl (ws : List Int) (wn : Nat → Nat) (hw : ∀ j, wn j < 6) : ∀ (j k : Nat), j ≤ 6 → k < 64 → (∀ i, i < j → ws.getD i 0 = wn i) → splitF ws j (k : Int) = (((spl wn j k).1 : Int), ((spl wn j k).2 : Int))
  | 0, k, _, _, _ => rfl
  | j + 1, k, hj, h, he => by
    have ih := split_spl ws wn hw j (clB k (wn j)) (by omega) (clB_lt k h _ (hw j)) fun i hi => he i (by omega)
    obtain ⟨l1, _⟩ := spl_lt wn hw j _ (clB_lt k h _ (hw j))
    simp only [splitF, spl]
    rw [he j (by omega), clB_not k h _ (hw j), ih, bit_shr k h _ (hw j)]
    dsimp only
    congr 1
    cases k.testBit (wn j) with
    | true => exact or_bit j (by omega) _ l1
    | false => exact or_no j (by omega) _ l1
theorem taken_spl (ws : List Int) (wn : Nat → Nat) (hw : ∀ j, wn j < 6) (k : Nat) (h : k < 64) : ∀ j, j ≤ 6 → (∀ i, i < j → ws.getD i 0 = wn i) → (∀ a b, a < b → b < j → wn a ≠ wn b) → takenF ws k j = (((spl wn j k).1 : Int), ((spl wn j k).2 : Int))
  | 0, _, _, _ => rfl
  | j + 1, hj, he, hd => by
    have ih := taken_spl ws wn hw k h j (by omega) (fun i hi => he i (by omega)) fun a b h1 h2 => hd a b h1 (by omega)
    obtain ⟨l1, l2⟩ := spl_lt wn hw j k h
    rw [spl_succ wn hw j k h fun i hi => hd i j hi (by omega)]
    simp only [takenF]
    rw [he j (by omega), ih]
    dsimp only
    cases e : (spl wn j k).2.testBit (wn j) with
    | true =>
      rw [if_pos (fun q => by rw [(bit_and _ l2 _ (hw j)).1 q] at e; cases e), add_bit j (by omega) _ l1, sub_bit _ l2 _ (hw j) e]
      rfl
    | false =>
      rw [if_neg (fun q => q ((bit_and _ l2 _ (hw j)).2 e))]
      simp [clB, e]
/-- For wires that differ, both say the same. -/
theorem taken_split (ws : List Int) (n : Int) (hn : n ≤ 6) (h1 : ws.all (inW n) = true) (h2 : twiceF ws = false) (k : Nat) (hk : k < 64) (hl : ws.length ≤ 6) : takenF ws k ws.length = splitF ws ws.length k := by
  have hin : ∀ x ∈ ws, 0 ≤ x ∧ x < 6 := fun x hx => by
    have := List.all_eq_true.1 h1 x hx
    unfold inW at this
    simp at this
    omega
  have hg : ∀ i, i < ws.length → ∃ x, ws[i]? = some x ∧ ws.getD i 0 = x ∧ 0 ≤ x ∧ x < 6 := fun i hi => by
    have := hin ws[i] (List.getElem_mem hi)
    exact ⟨ws[i], List.getElem?_eq_getElem hi, by simp [List.getD_eq_getElem?_getD, hi], this⟩
  obtain ⟨wn, hwn⟩ : ∃ wn : Nat → Nat, wn = fun j => (ws.getD j 0).toNat := ⟨_, rfl⟩
  have hw : ∀ j, wn j < 6 := fun j => by
    rw [hwn]
    dsimp only
    by_cases hj : j < ws.length
    · obtain ⟨x, _, e, _, _⟩ := hg j hj
      rw [e]; omega
    · simp [List.getD_eq_getElem?_getD, List.getElem?_eq_none (Nat.le_of_not_lt hj)]
  have he : ∀ i, i < ws.length → ws.getD i 0 = (wn i : Int) := fun i hi => by
    obtain ⟨x, _, e, _, _⟩ := hg i hi
    rw [hwn]
    dsimp only
    rw [e]; omega
  have hd : ∀ a b, a < b → b < ws.length → wn a ≠ wn b := fun a b hab hb e => by
    unfold twiceF at h2
    rw [List.any_eq_false] at h2
    have := h2 b (List.mem_range.2 hb)
    apply this
    rw [List.contains_iff_mem, he b hb, ← e, ← he a (by omega)]
    obtain ⟨x, q1, q2, _⟩ := hg a (by omega)
    rw [q2]
    exact List.mem_take_iff_getElem.2 ⟨a, by omega, by rw [List.getElem?_eq_getElem (by omega)] at q1; exact Option.some.inj q1⟩
  rw [taken_spl ws wn hw k hk ws.length hl he hd, split_spl ws wn hw ws.length k hl hk he]
end Go.Proofs.YtbbjhegapilhpaaGreat

namespace Go.Proofs.YtbbjhegapilhpaaGreat
open Go.Proofs.YtbbjhegapilhpaaGreat.X Go.Proofs.YtbbjhegapilhpaaGreat.X.PH
set_option maxRecDepth 100000

/-- A row of which the first numbers are computed. -/
def halfR (F : Nat → Nat → (P4 × Int) × Int) (i w b : Nat) : List (P4 × Int) := (List.range w).map fun q => if q < b then (F i q).1 else (P4.zero, 0)
theorem halfR_zero (F : Nat → Nat → (P4 × Int) × Int) (i w : Nat) : halfR F i w 0 = zeros w := by
  apply List.ext_getElem <;> simp [halfR, zeros]
theorem halfR_full (F : Nat → Nat → (P4 × Int) × Int) (i w : Nat) : gridM F (i + 1) w = gridM F i w ++ [halfR F i w w] := by
  unfold gridM
  rw [List.range_succ, List.map_append]
  congr 1
  rw [List.map_cons, List.map_nil]
  congr 1
  unfold halfR
  refine List.map_congr_left fun q hq => ?_
  rw [if_pos (List.mem_range.1 hq)]
theorem halfR_len (F : Nat → Nat → (P4 × Int) × Int) (i w b : Nat) : (halfR F i w b).length = w := by simp [halfR]
theorem halfR_set (F : Nat → Nat → (P4 × Int) × Int) (i w b : Nat) (x : P4 × Int) (hx : (F i b).1 = x) : (halfR F i w b).set b x = halfR F i w (b + 1) := by
  apply List.ext_getElem
  · simp [halfR]
  intro q h1 h2
  rw [List.getElem_set]
  simp only [halfR, List.getElem_map, List.getElem_range]
  split
  · rename_i e
    subst e
    rw [if_pos (by omega), hx]
  · by_cases h : q < b
    · rw [if_pos h, if_pos (by omega)]
    · rw [if_neg h, if_neg (by omega)]
theorem halfR_skip (F : Nat → Nat → (P4 × Int) × Int) (i w b : Nat) (hx : (F i b).1 = (P4.zero, 0)) : halfR F i w (b + 1) = halfR F i w b := by
  apply List.map_congr_left
  intro q hq
  by_cases h : q < b
  · rw [if_pos h, if_pos (by omega)]
  · rw [if_neg h]
    split
    · have : q = b := by omega
      rw [this, hx]
    · rfl
theorem gridM_len (F : Nat → Nat → (P4 × Int) × Int) (h w : Nat) : (gridM F h w).length = h := (gridM_shape F h w).1
/-- A matrix half made, with another row. -/
theorem c19 (m : Mx) (hlm : m.length < 1000000) (ws : List Int) (hws : ws.length < 100000) (n : Int) (H : PH) (u v : Value) (hu : MatH H u m) (hv : IntsH H v ws) :
    Cl Tryz.prog 19 [u, v, .int .i64 n] H emp fun r _ M' => OutO M' r (resM (onErr m ws n) (onAt m ws) (2 ^ n.toNat) (2 ^ n.toNat)) := by
  obtain ⟨base, cap, rfl⟩ := hu.sl
  obtain ⟨wb, wc, rfl, _⟩ := id hv
  refine Cl_of (pol := polL) Γok Tryz.func19 (by kernel_rfl) rfl ?_
  conv => whnf
  refine (c30 m _ _ hu).val fun H1 s1 => ?_
  have bad : ∀ e, onErr m ws n = e → e ≠ 0 → OutO emp (.tuple #[.slice none 0 0, .int .i64 e]) (resM (onErr m ws n) (onAt m ws) (2 ^ n.toNat) (2 ^ n.toNat)) := fun e he h => by
    rw [he, resM_bad h]
    exact .bad
  conv => whnf
  refine if_intro (fun he => ?_) (fun he => ?_)
  · conv => whnf
    have he : checkMR m ≠ 0 := by simpa using he
    refine bad _ ?_ he
    unfold onErr; rw [checkMF_checkMR, if_pos he]
  have he : checkMR m = 0 := by simpa using he
  have hf : checkMF m = 0 := by rw [checkMF_checkMR, he]
  have rm := right_of hf
  conv => whnf
  have err3 : (decide (n < 0) || decide (n > 6)) = true → onErr m ws n = 3 := fun h => by
    unfold onErr; rw [if_neg (by simpa using hf), if_pos h]
  refine if_intro (fun h1 => ?_) (fun h1 => ?_)
  · conv => whnf
    exact bad _ (err3 (by rw [h1]; rfl)) (by decide)
  conv => whnf
  refine if_intro (fun h2 => ?_) (fun h2 => ?_)
  · conv => whnf
    exact bad _ (err3 (by rw [h2, Bool.or_true])) (by decide)
  have h12 : (decide (n < 0) || decide (n > 6)) = false := by rw [h1, h2]; rfl
  conv => whnf
  refine (c70 ws n (by omega) _ _ (IntsH.up hv s1)).val fun H2 s2 => ?_
  conv => whnf
  have epl : placesR ws n ≠ 0 → onErr m ws n = placesR ws n := fun h => by
    unfold onErr
    rw [if_neg (by simpa using hf), if_neg (by rw [h12]; simp)]
    unfold placesR at h ⊢
    split
    · rfl
    · rename_i h3
      rw [if_neg h3] at h
      split
      · rfl
      · rename_i h4
        rw [if_neg h4] at h
        exact absurd rfl h
  refine if_intro (fun h3 => ?_) (fun h3 => ?_)
  · have h3 : placesR ws n ≠ 0 := by simpa using h3
    conv => whnf
    exact bad _ (epl h3) h3
  have h3 : placesR ws n = 0 := by simpa using h3
  have hall : ws.all (inW n) = true := by
    cases e : ws.all (inW n) with
    | true => rfl
    | false => unfold placesR at h3; rw [if_pos e] at h3; cases h3
  have htw : twiceF ws = false := by
    cases e : twiceF ws with
    | false => rfl
    | true => unfold placesR at h3; rw [if_neg (by rw [hall]; simp), if_pos e] at h3; cases h3
  have err7 : ((m.length : Int) == (wideM m : Int)) = false ∨ (m.length : Int) ≠ shlI 1 ws.length → onErr m ws n = 7 := fun h => by
    unfold onErr
    rw [if_neg (by simpa using hf), if_neg (by rw [h12]; simp), if_neg (by rw [hall]; simp), if_neg (by rw [htw]; simp), if_pos h]
  conv => whnf
  refine if_intro (fun h4 => ?_) (fun h4 => ?_)
  · have h4 : (m.length : Int) ≠ shlI 1 ws.length := by simpa [shlI] using h4
    conv => whnf
    exact bad _ (err7 (.inr h4)) (by decide)
  have h4 : (m.length : Int) = shlI 1 ws.length := by simpa [shlI] using h4
  obtain ⟨hL, hM⟩ := shl_len h4 rm.pos rm.le
  obtain ⟨b0, off0, rb, rc, rfl, hrd0, hn0⟩ := hu.at rm.pos
  conv => whnf
  refine dec_intro (by have := rm.pos; omega) ?_
  conv => whnf
  refine ⟨_, hrd0 _ _ (s1.trans s2), ?_⟩
  conv => whnf
  rw [← wideM_get rm.pos]
  refine if_intro (fun h5 => ?_) (fun h5 => ?_)
  · have h5 : (wideM m : Int) ≠ m.length := by simpa using h5
    conv => whnf
    exact bad _ (err7 (.inl (by simpa using fun e => h5 (by rw [e])))) (by decide)
  have h5 : wideM m = m.length := by
    have : (wideM m : Int) = m.length := by simpa using h5
    omega
  have err0 : onErr m ws n = 0 := by
    unfold onErr
    rw [if_neg (by simpa using hf), if_neg (by rw [h12]; simp), if_neg (by rw [hall]; simp), if_neg (by rw [htw]; simp), if_neg (by rw [h5, ← h4]; simp)]
  conv => whnf
  have hn1 := of_decide_eq_false h1
  have hn2 := of_decide_eq_false h2
  obtain ⟨n, rfl⟩ := nat_of (a := n) (by omega)
  rw [show 2 ^ (n : Int).toNat = 2 ^ n by rw [Int.toNat_natCast]]
  have p2 : 2 ^ n ≤ 64 := by
    have : 2 ^ n ≤ 2 ^ 6 := Nat.pow_le_pow_right (by decide) (by omega)
    omega
  have hw0 : ∀ w ∈ ws, 0 ≤ w := fun x hx => by
    have := List.all_eq_true.1 hall x hx
    unfold inW at this
    simp at this
    omega
  have hl6 : ws.length ≤ 6 := by
    rcases Nat.lt_or_ge 6 ws.length with h | h
    · have : 2 ^ 7 ≤ 2 ^ ws.length := Nat.pow_le_pow_right (by decide) h
      have := rm.le
      omega
    · exact h
  have bnd : ∀ k : Nat, 0 ≤ (splitF ws ws.length k).1 ∧ (splitF ws ws.length k).1 < m.length := fun k => by
    have := splitF_bound ws ws.length k (by omega)
    rw [hM]
    simpa using this
  have tks : ∀ k : Nat, k < 64 → takenF ws k ws.length = splitF ws ws.length k := fun k hk => taken_split ws n (by omega) hall htw k hk hl6
  rw [resM_ok err0 (errs_zero fun i k hi hk => by
    unfold onAt
    split
    · rfl
    · obtain ⟨b1', b2'⟩ := bnd i
      obtain ⟨b3', b4'⟩ := bnd k
      obtain ⟨p, hp⟩ : ∃ p : Nat, (splitF ws ws.length i).1 = p := ⟨(splitF ws ws.length i).1.toNat, by omega⟩
      obtain ⟨q, hqq⟩ : ∃ q : Nat, (splitF ws ws.length k).1 = q := ⟨(splitF ws ws.length k).1.toNat, by omega⟩
      have hpl : p < m.length := by omega
      have hql : q < m[p].length := by rw [rm.row _ (List.getElem_mem hpl), h5]; omega
      have hck0 := (checkMR_zero he).2.2.2 _ (List.getElem_mem hpl) _ (List.getElem_mem hql)
      rw [hp, hqq, Int.toNat_natCast, Int.toNat_natCast, entry_get hpl hql, LeastF_eq (by rw [checkF_checkR]; exact hck0)])]
  conv => whnf
  rw [shl1 (by omega)]
  obtain ⟨s, hs⟩ : ∃ s, s = 2 ^ n := ⟨_, rfl⟩
  have shs : IntKind.i64.wrap (1 * 2 ^ (min (n : Int).toNat IntKind.i64.bits)) = (s : Int) := by rw [shl1 (by omega), hs]
  rw [← hs] at p2 ⊢
  refine dec_intro (Int.le_refl _) ?_
  conv => whnf
  refine dec_intro (by omega) ?_
  conv => whnf
  refine dec_intro (by omega) ?_
  conv => whnf
  intro b1 hb1 _
  conv => whnf
  refine W_loop (pol := polL) Γok (Nat × List Nat × PH × PH) (fun i => i.1 ≤ s ∧ Sub H2 i.2.2.1 ∧ HalfM i.2.2.2 b1 s s i.2.1 (gridM (onAt m ws) i.1 s)) (fun i => s - i.1) (fun i => [(11, .v (.int .i64 i.1))]) (fun _ => []) (fun i => i.2.2.1) (fun i => i.2.2.2) ⟨(0, [], H2, _), ⟨by simp, Sub.refl _, HalfM.start b1 s s emp⟩, rfl, rfl, ?_⟩ ?_
  · conv => whnf
    repeat (refine ⟨rfl, ?_⟩; conv => whnf)
    exact trivial
  · rintro ⟨i, bs, H3, O'⟩ ⟨k1, s3, g⟩
    dsimp only at k1 s3 g
    conv => whnf
    rw [shs]
    refine if_intro (fun hc => ?_) (fun hc => ?_)
    · have hi : i < s := by simpa using hc
      have hbl : i = bs.length := by rw [g.rows.len, gridM_len]
      conv => whnf
      rw [shs]
      refine dec_intro (Int.le_refl _) ?_
      conv => whnf
      refine dec_intro (by omega) ?_
      conv => whnf
      refine dec_intro (by omega) ?_
      conv => whnf
      intro b hb hO
      conv => whnf
      refine dec_intro (by omega) ?_
      conv => whnf
      obtain ⟨cs, q1, q2, g2⟩ := g.row hbl hi hO
      refine ⟨cs, _, q1, q2, ?_⟩
      conv => whnf
      have t3 : Sub H H3 := s1.trans (s2.trans s3)
      refine (c71 ws (by omega) hw0 i _ _ (IntsH.up hv t3)).val fun H4 s4 => ?_
      rw [tks i (by omega)]
      conv => whnf
      have hml : i = (gridM (onAt m ws) i s).length := (gridM_len _ _ _).symm
      rw [← halfR_zero (onAt m ws) i s] at g2
      refine W_loop (pol := polL) Γok (Nat × PH × PH) (fun k => k.1 ≤ s ∧ Sub H4 k.2.1 ∧ HalfM k.2.2 b1 s s (bs ++ [b]) (gridM (onAt m ws) i s ++ [halfR (onAt m ws) i s k.1])) (fun k => s - k.1) (fun k => [(14, .v (.int .i64 k.1))]) (fun _ => []) (fun k => k.2.1) (fun k => k.2.2) ⟨(0, H4, _), ⟨by simp, Sub.refl _, g2⟩, rfl, rfl, ?_⟩ ?_
      · conv => whnf
        repeat (refine ⟨rfl, ?_⟩; conv => whnf)
        exact trivial
      · rintro ⟨k, H5, O2⟩ ⟨j1, s5, gk⟩
        dsimp only at j1 s5 gk
        conv => whnf
        rw [shs]
        refine if_intro (fun hck => ?_) (fun hck => ?_)
        · have hk : k < s := by simpa using hck
          conv => whnf
          have t5 : Sub H H5 := t3.trans (s4.trans s5)
          refine (c71 ws (by omega) hw0 k _ _ (IntsH.up hv t5)).val fun H6 s6 => ?_
          rw [tks k (by omega)]
          conv => whnf
          refine if_intro (fun hq => ?_) (fun hq => ?_)
          · have hq : (splitF ws ws.length i).2 = (splitF ws ws.length k).2 := by simpa using hq
            obtain ⟨b1', b2'⟩ := bnd i
            obtain ⟨b3', b4'⟩ := bnd k
            obtain ⟨p, hp⟩ : ∃ p : Nat, (splitF ws ws.length i).1 = p := ⟨(splitF ws ws.length i).1.toNat, by omega⟩
            obtain ⟨q, hqq⟩ : ∃ q : Nat, (splitF ws ws.length k).1 = q := ⟨(splitF ws ws.length k).1.toNat, by omega⟩
            have hpl : p < m.length := by omega
            have hql : q < m[p].length := by rw [rm.row _ (List.getElem_mem hpl), h5]; omega
            have hck0 := (checkMR_zero he).2.2.2 _ (List.getElem_mem hpl) _ (List.getElem_mem hql)
            have hF : (onAt m ws i k).1 = formR m[p][q].1 m[p][q].2 := by
              unfold onAt
              rw [if_neg (by rw [hq]; simp), hp, hqq, Int.toNat_natCast, Int.toNat_natCast, entry_get hpl hql, LeastF_eq (by rw [checkF_checkR]; exact hck0)]
            obtain ⟨c1, c2, _⟩ := checkR_zero hck0
            obtain ⟨rb', ro', rb2, rc2, hbe, hrd, hnum⟩ := hu.at hpl
            cases hbe
            obtain ⟨eb, eo, rfl, hx⟩ := hnum.at hql
            rw [hp, hqq]
            conv => whnf
            have him : i < (gridM (onAt m ws) i s ++ [halfR (onAt m ws) i s k]).length := by rw [List.length_append, gridM_len]; simp
            refine W_lend (parts_only _ b1) fun hd => ?_
            obtain ⟨bb, hbb, hne, hl, hOb, hOb', hrl⟩ := gk.lent him hd
            have hkl : k < ((gridM (onAt m ws) i s ++ [halfR (onAt m ws) i s k])[i]).length := by rw [hl]; exact hk
            have g3 := gk.setN (formR m[p][q].1 m[p][q].2) hbb him hkl
            rw [setM_last _ _ hml, halfR_set _ _ _ _ _ hF] at g3
            refine W_draw (pol := polL) Γok mixes [(0, .pend), (1, .pend), (2, .pend), (3, .pend), (4, .pend), (5, .pendO), (6, .pendO), (7, .pendO), (8, .pendO), (9, .pendO), (10, .pendO), (11, .pendO), (12, .lock), (13, .pendO), (14, .lock)] 100 (by kernel_rfl) rfl ?_
            conv => whnf
            refine dec_intro (by omega) ?_
            conv => whnf
            refine ⟨_, hrl _ _ (Sub.refl _), ?_⟩
            conv => whnf
            refine dec_intro (by omega) ?_
            conv => whnf
            refine ⟨_, hrd _ _ ((t5.trans s6).trans (sub_un _ _)), ?_⟩
            conv => whnf
            refine dec_intro (by omega) ?_
            conv => whnf
            refine ⟨_, hx _ _ ((t5.trans s6).trans (sub_un _ _)), ?_⟩
            conv => whnf
            refine (c72 m[p][q].1 m[p][q].2 (by omega) (by omega) _).val fun H7 s7 => ?_
            conv => whnf
            refine dec_intro (by omega) ?_
            conv => whnf
            refine ⟨_, _, hOb', ?_, ?_⟩
            · show _ ≤ (cellsN _).length
              rw [cellsN_length, hl]
              simp only [Int.toNat_natCast, List.length_cons, List.length_nil]
              omega
            conv => whnf
            refine ⟨fun n o hn => s7 n o (un_right hd hn), fun q b3 hq hp => (noLoc (by simp) hq).elim, fun H8 e1 e2 => ?_⟩
            conv => whnf
            have s8 : Sub H4 H8 := fun n o hn => by
              have h1 := s6 n o (s5 n o hn)
              have h2 := (hd n).resolve_left (by rw [h1]; simp)
              exact (e1 n h2).trans (s7 n o (sub_un _ _ n o h1))
            rw [← un_only hne gk.list] at g3
            refine ⟨(k + 1, H8, _), ⟨hk, s8, g3⟩, by dsimp only; omega, ?_⟩
            refine ⟨rfl, rfl, ?_⟩
            conv => whnf
            repeat (refine ⟨rfl, ?_⟩; conv => whnf)
            refine ⟨by show En.v (.int .i64 (IntKind.i64.wrap (k + 1))) = _; rw [wrap_id (by omega) (by omega)]; rfl, ?_⟩
            conv => whnf
            repeat (refine ⟨rfl, ?_⟩; conv => whnf)
            exact trivial
          · have hq : (splitF ws ws.length i).2 ≠ (splitF ws ws.length k).2 := by simpa using hq
            have hF : (onAt m ws i k).1 = (P4.zero, 0) := by
              unfold onAt
              rw [if_pos hq]
            conv => whnf
            refine ⟨(k + 1, H6, O2), ⟨hk, s5.trans s6, ?_⟩, by dsimp only; omega, ?_⟩
            · dsimp only
              rw [halfR_skip _ _ _ _ hF]
              exact gk
            refine ⟨rfl, rfl, ?_⟩
            conv => whnf
            repeat (refine ⟨rfl, ?_⟩; conv => whnf)
            refine ⟨by show En.v (.int .i64 (IntKind.i64.wrap (k + 1))) = _; rw [wrap_id (by omega) (by omega)]; rfl, ?_⟩
            conv => whnf
            repeat (refine ⟨rfl, ?_⟩; conv => whnf)
            exact trivial
        · have hk : k = s := by
            have h := of_decide_eq_false hck
            omega
          subst hk
          rw [← halfR_full] at gk
          conv => whnf
          refine ⟨(i + 1, bs ++ [b], H5, O2), ⟨hi, s3.trans (s4.trans s5), gk⟩, by dsimp only; omega, ?_⟩
          refine ⟨rfl, rfl, ?_⟩
          conv => whnf
          repeat (refine ⟨rfl, ?_⟩; conv => whnf)
          refine ⟨by show En.v (.int .i64 (IntKind.i64.wrap (i + 1))) = _; rw [wrap_id (by omega) (by omega)]; rfl, ?_⟩
          conv => whnf
          repeat (refine ⟨rfl, ?_⟩; conv => whnf)
          exact trivial
    · have hi : i = s := by
        have h := of_decide_eq_false hc
        omega
      subst hi
      conv => whnf
      exact ⟨_, rfl, .inr ⟨i, i, by omega, by omega, g.own (gridM_len _ _ _)⟩⟩
end Go.Proofs.YtbbjhegapilhpaaGreat

namespace Go.Proofs.YtbbjhegapilhpaaGreat
open Go.Proofs.YtbbjhegapilhpaaGreat.X Go.Proofs.YtbbjhegapilhpaaGreat.X.PH
set_option maxRecDepth 100000

theorem OwnQ.pub {H M : PH} (hd : Dis H M) {u : Value} {x : Mx} (h : OwnQ M u x) : ∃ H' M', Repart H M H' M' ∧ MatH H' u x := ⟨_, _, .all hd, h.share hd⟩
theorem c68h (to : List Int) (k : Mx) (hn : to.length < 1000) (ht : ∀ k, k < to.length → to[k]? = some (((to.getD k 0).toNat : Nat) : Int) ∧ (to.getD k 0).toNat < to.length) (hk : movedM (fun k => (to.getD k 0).toNat) to.length to.length = k) (H : PH) (v : Value) (hv : IntsH H v to) :
    Cl Tryz.prog 68 [v] H emp fun r H' _ => MatH H' r k :=
  (c68 to (fun k => (to.getD k 0).toNat) hn ht H v hv).repart fun _ _ _ _ hd h => by rw [hk] at h; exact h.pub hd
theorem c69h (ps : List Int) (k : Mx) (hn : ps.length < 1000) (ht : ∀ k, k < ps.length → ps[k]? = some (((ps.getD k 0).toNat : Nat) : Int) ∧ (ps.getD k 0).toNat < 8) (hk : diagR (fun p => OmegaF ((ps.getD p 0).toNat : Nat)) ps.length ps.length = k) (H : PH) (v : Value) (hv : IntsH H v ps) :
    Cl Tryz.prog 69 [v] H emp fun r H' _ => MatH H' r k :=
  (c69 ps (fun k => (ps.getD k 0).toNat) hn ht H v hv).repart fun _ _ _ _ hd h => by rw [hk] at h; exact h.pub hd
/-- The operator of a kind, of the reference. -/
def OfR (kind : Int) : Mx × Int := if 1 ≤ kind ∧ kind ≤ 12 then (opM kind.toNat, 0) else ([], 3)
theorem c18 (kind : Int) (H : PH) : Cl Tryz.prog 18 [.int .i64 kind] H emp fun r H' _ => OutH H' r (OfR kind) := by
  refine Cl_of (pol := fun _ => .imm) Γok Tryz.func18 (by kernel_rfl) rfl ?_
  conv => whnf
  refine if_intro (fun h1 => ?_) (fun h1 => ?_)
  · have h1 : kind = 1 := by simpa using h1
    subst h1
    conv => whnf
    intro b hb _
    conv => whnf
    refine (c68h [1, 0] (opM 1) (by decide) (by decide) (by kernel_rfl) _ _ (ints_lit (ins_same _ _ _))).use fun r H1 s1 hr => ?_
    conv => whnf
    obtain ⟨_, hr⟩ := hr
    exact ⟨r, rfl, hr⟩
  conv => whnf
  refine if_intro (fun h2 => ?_) (fun h2 => ?_)
  · have h2 : kind = 2 := by simpa using h2
    subst h2
    conv => whnf
    intro b1 hb1 _
    conv => whnf
    intro b2 hb2 _
    conv => whnf
    intro b3 hb3 _
    conv => whnf
    refine ⟨_, rfl, ?_⟩
    have s2 := sub_ins _ (.cells ⟨cellsOf (OmegaF 2) ++ cellsOf ((P4.zero, 0) : P4 × Int)⟩ 28 (0, 0)) hb2
    have s3 := sub_ins _ (.cells ⟨[rowV b1 2, rowV b2 2]⟩ 50 (0, 0)) hb3
    exact mat2 (ins_same _ _ _) (NumH.up (NumH.up (pair_num (ins_same _ _ _)) s2) s3) (NumH.up (pair_num (ins_same _ _ _)) s3)
  conv => whnf
  refine if_intro (fun h3 => ?_) (fun h3 => ?_)
  · have h3 : kind = 3 := by simpa using h3
    subst h3
    conv => whnf
    intro b hb _
    conv => whnf
    refine (c69h [0, 4] (opM 3) (by decide) (by decide) (by kernel_rfl) _ _ (ints_lit (ins_same _ _ _))).use fun r H1 s1 hr => ?_
    conv => whnf
    obtain ⟨_, hr⟩ := hr
    exact ⟨r, rfl, hr⟩
  conv => whnf
  refine if_intro (fun h4 => ?_) (fun h4 => ?_)
  · have h4 : kind = 4 := by simpa using h4
    subst h4
    conv => whnf
    intro b1 hb1 _
    conv => whnf
    intro b2 hb2 _
    conv => whnf
    intro b3 hb3 _
    conv => whnf
    refine ⟨_, rfl, ?_⟩
    have s2 := sub_ins _ (.cells ⟨cellsOf rootN ++ cellsOf minusN⟩ 28 (0, 0)) hb2
    have s3 := sub_ins _ (.cells ⟨[rowV b1 2, rowV b2 2]⟩ 50 (0, 0)) hb3
    exact mat2 (ins_same _ _ _) (NumH.up (NumH.up (pair_num (ins_same _ _ _)) s2) s3) (NumH.up (pair_num (ins_same _ _ _)) s3)
  conv => whnf
  refine if_intro (fun h5 => ?_) (fun h5 => ?_)
  · have h5 : kind = 5 := by simpa using h5
    subst h5
    conv => whnf
    intro b hb _
    conv => whnf
    refine (c69h [0, 2] (opM 5) (by decide) (by decide) (by kernel_rfl) _ _ (ints_lit (ins_same _ _ _))).use fun r H1 s1 hr => ?_
    conv => whnf
    obtain ⟨_, hr⟩ := hr
    exact ⟨r, rfl, hr⟩
  conv => whnf
  refine if_intro (fun h6 => ?_) (fun h6 => ?_)
  · have h6 : kind = 6 := by simpa using h6
    subst h6
    conv => whnf
    intro b hb _
    conv => whnf
    refine (c69h [0, 6] (opM 6) (by decide) (by decide) (by kernel_rfl) _ _ (ints_lit (ins_same _ _ _))).use fun r H1 s1 hr => ?_
    conv => whnf
    obtain ⟨_, hr⟩ := hr
    exact ⟨r, rfl, hr⟩
  conv => whnf
  refine if_intro (fun h7 => ?_) (fun h7 => ?_)
  · have h7 : kind = 7 := by simpa using h7
    subst h7
    conv => whnf
    intro b hb _
    conv => whnf
    refine (c69h [0, 1] (opM 7) (by decide) (by decide) (by kernel_rfl) _ _ (ints_lit (ins_same _ _ _))).use fun r H1 s1 hr => ?_
    conv => whnf
    obtain ⟨_, hr⟩ := hr
    exact ⟨r, rfl, hr⟩
  conv => whnf
  refine if_intro (fun h8 => ?_) (fun h8 => ?_)
  · have h8 : kind = 8 := by simpa using h8
    subst h8
    conv => whnf
    intro b hb _
    conv => whnf
    refine (c69h [0, 7] (opM 8) (by decide) (by decide) (by kernel_rfl) _ _ (ints_lit (ins_same _ _ _))).use fun r H1 s1 hr => ?_
    conv => whnf
    obtain ⟨_, hr⟩ := hr
    exact ⟨r, rfl, hr⟩
  conv => whnf
  refine if_intro (fun h9 => ?_) (fun h9 => ?_)
  · have h9 : kind = 9 := by simpa using h9
    subst h9
    conv => whnf
    intro b hb _
    conv => whnf
    refine (c68h [0, 3, 2, 1] (opM 9) (by decide) (by decide) (by kernel_rfl) _ _ (ints_lit (ins_same _ _ _))).use fun r H1 s1 hr => ?_
    conv => whnf
    obtain ⟨_, hr⟩ := hr
    exact ⟨r, rfl, hr⟩
  conv => whnf
  refine if_intro (fun h10 => ?_) (fun h10 => ?_)
  · have h10 : kind = 10 := by simpa using h10
    subst h10
    conv => whnf
    intro b hb _
    conv => whnf
    refine (c69h [0, 0, 0, 4] (opM 10) (by decide) (by decide) (by kernel_rfl) _ _ (ints_lit (ins_same _ _ _))).use fun r H1 s1 hr => ?_
    conv => whnf
    obtain ⟨_, hr⟩ := hr
    exact ⟨r, rfl, hr⟩
  conv => whnf
  refine if_intro (fun h11 => ?_) (fun h11 => ?_)
  · have h11 : kind = 11 := by simpa using h11
    subst h11
    conv => whnf
    intro b hb _
    conv => whnf
    refine (c68h [0, 2, 1, 3] (opM 11) (by decide) (by decide) (by kernel_rfl) _ _ (ints_lit (ins_same _ _ _))).use fun r H1 s1 hr => ?_
    conv => whnf
    obtain ⟨_, hr⟩ := hr
    exact ⟨r, rfl, hr⟩
  conv => whnf
  refine if_intro (fun h12 => ?_) (fun h12 => ?_)
  · have h12 : kind = 12 := by simpa using h12
    subst h12
    conv => whnf
    intro b hb _
    conv => whnf
    refine (c68h [0, 1, 2, 7, 4, 5, 6, 3] (opM 12) (by decide) (by decide) (by kernel_rfl) _ _ (ints_lit (ins_same _ _ _))).use fun r H1 s1 hr => ?_
    conv => whnf
    obtain ⟨_, hr⟩ := hr
    exact ⟨r, rfl, hr⟩
  conv => whnf
  have e : OfR kind = ([], 3) := by
    unfold OfR
    rw [if_neg]
    rintro ⟨q1, q2⟩
    simp at h1 h2 h3 h4 h5 h6 h7 h8 h9 h10 h11 h12
    omega
  rw [e]
  exact ⟨_, rfl, nilM _⟩
end Go.Proofs.YtbbjhegapilhpaaGreat

namespace Go.Proofs.YtbbjhegapilhpaaGreat
open Go.Proofs.YtbbjhegapilhpaaGreat.X Go.Proofs.YtbbjhegapilhpaaGreat.X.PH
set_option maxRecDepth 100000

/-- What is new. -/
def newH (H0 H : PH) : PH := fun n => match H0 n with
  | some _ => none
  | none => H n
theorem newH_some {H0 H : PH} {n : Nat} {o : Obj} (h0 : H0 n = none) (h : H n = some o) : newH H0 H n = some o := by simp [newH, h0, h]
theorem newH_up {H0 H H' : PH} (hs : Sub H H') : Sub (newH H0 H) (newH H0 H') := fun n o hn => by
  unfold newH at hn ⊢
  cases e : H0 n with
  | some _ => rw [e] at hn; cases hn
  | none => rw [e] at hn; exact hs n o hn
theorem newH_base {H0 H1 H : PH} (hs : Sub H0 H1) : Sub (newH H1 H) (newH H0 H) := fun n o hn => by
  unfold newH at hn ⊢
  cases e : H1 n with
  | some _ => rw [e] at hn; cases hn
  | none =>
    rw [e] at hn
    cases e0 : H0 n with
    | some o' => rw [hs n o' e0] at e; cases e
    | none => exact hn
/-- A matrix that is new, and lies by itself. -/
def MatN (H0 H : PH) (v : Value) (m : Mx) : Prop := ∃ h w, h < 1000000 ∧ w < 1000000 ∧ OwnM (newH H0 H) v h w m
theorem MatN.up {H0 H H' : PH} {v : Value} {m : Mx} (h : MatN H0 H v m) (hs : Sub H H') : MatN H0 H' v m := by
  obtain ⟨a, b, h1, h2, h3⟩ := h
  exact ⟨a, b, h1, h2, h3.up (newH_up hs)⟩
theorem MatN.base {H0 H1 H : PH} {v : Value} {m : Mx} (h : MatN H1 H v m) (hs : Sub H0 H1) : MatN H0 H v m := by
  obtain ⟨a, b, h1, h2, h3⟩ := h
  exact ⟨a, b, h1, h2, h3.up (newH_base hs)⟩
/-- The list of the rows is new. -/
def ListN (H0 H : PH) (v : Value) (bs : List Nat) (h w : Nat) : Prop := ∃ b0, v = .slice (some ⟨b0, 0, none⟩) h h ∧ H0 b0 = none ∧ H b0 = some (.cells ⟨bs.map fun b => rowV b w⟩ 50 (0, 0))
theorem ListN.up {H0 H H' : PH} {v : Value} {bs : List Nat} {h w : Nat} (k : ListN H0 H v bs h w) (hs : Sub H H') : ListN H0 H' v bs h w := by
  obtain ⟨b0, h1, h2, h3⟩ := k
  exact ⟨b0, h1, h2, hs _ _ h3⟩
theorem RowsB.new {H0 H M : PH} (hs : Sub H0 H) (hd : Dis H M) {v : Value} {bs : List Nat} {h w : Nat} {m : Mx} (hh : h < 1000000) (hw : w < 1000000) (hm : RowsB H M v bs h w m) (hl : ListN H0 H v bs h w) : MatN H0 (un H M) v m := by
  obtain ⟨b0, rfl, h2, h3⟩ := hl
  have hM : ∀ b o, M b = some o → newH H0 (un H M) b = some o := fun b o hb => by
    have h1 : H b = none := (hd b).resolve_right (by rw [hb]; simp)
    have h0 : H0 b = none := by
      cases e : H0 b with
      | none => rfl
      | some o' => rw [hs b o' e] at h1; cases h1
    exact newH_some h0 (un_right hd hb)
  refine ⟨h, w, hh, hw, hm.len, hm.wid, bs, b0, ⟨hm.rows.len, hm.rows.nodup, fun i b r h4 h5 => hM _ _ (hm.rows.cells i b r h4 h5)⟩, fun hb => ?_, rfl, newH_some h2 (by simp [un, h3])⟩
  obtain ⟨i, hi, e⟩ := List.mem_iff_getElem.1 hb
  have := hm.rows.cells i b0 (m[i]'(by rw [← hm.rows.len]; exact hi)) (by rw [List.getElem?_eq_getElem hi, e]) (List.getElem?_eq_getElem _)
  rcases hd b0 with h | h
  · rw [h3] at h; cases h
  · rw [this] at h; cases h
theorem c73n (h w : Nat) (hh : h < 1000000) (hw : w < 1000000) (H : PH) : Cl Tryz.prog 73 [.int .i64 h, .int .i64 w] H emp fun r H' M' => ∃ bs base cap, r = .slice base h cap ∧ RowsB H' M' r bs h w (List.replicate h (zeros w)) ∧ ListN H H' r bs h w := by
  refine (c73 h w hh hw H).repart fun r H' M' hs hd hq => ?_
  obtain ⟨_, hq⟩ := hq
  obtain ⟨bs, b0, rfl, hB⟩ := hq.ownB
  have hb0 : H' b0 = none := (hd b0).resolve_right (by rw [hB.list]; simp)
  refine ⟨_, _, .one hd hB.list, bs, _, _, rfl, ⟨hB.rows.of_sub fun b hb => del_ne _ fun e => by subst e; exact hB.nb hb, ⟨_, _, rfl, .inr ⟨b0, 0, _, _, _, rfl, ins_same _ _ _, ?_⟩⟩, hB.len, hB.wid⟩, b0, rfl, ?_, ins_same _ _ _⟩
  · rw [List.drop_zero]
    exact List.take_length
  · cases e : H b0 with
    | none => rfl
    | some o => rw [hs _ _ e] at hb0; cases hb0
theorem c133n (t : Nat → Nat) (n : Nat) (hn : n < 1000000) (ht : ∀ k, k < n → t k < n) (H : PH) (fn : Fn) (first cp : Array Value) (hf : ∀ k, k < n → Does Tryz.prog H (.func fn first cp) [.int .i64 k] fun r _ => r = .int .i64 (t k)) :
    Cl Tryz.prog 133 [.int .i64 n, .func fn first cp] H emp fun r H' M' => ∃ bs, RowsB H' M' r bs n n (movedM t n n) ∧ ListN H H' r bs n n := by
  refine Cl_of (pol := polL) Γok Tryz.func133 (by kernel_rfl) rfl ?_
  conv => whnf
  refine (c73n n n hn hn H).mono fun r H1 M1 hs1 hq => ?_
  obtain ⟨bs, base, cap, rfl, hB, hF⟩ := hq
  conv => whnf
  refine W_loop (pol := polL) Γok (Nat × PH × PH) (fun i => i.1 ≤ n ∧ Sub H1 i.2.1 ∧ RowsB H1 i.2.2 (.slice base n cap) bs n n (movedM t n i.1)) (fun i => n - i.1) (fun i => [(11, .v (.int .i64 i.1))]) (fun _ => []) (fun i => i.2.1) (fun i => i.2.2) ⟨(0, H1, M1), ⟨by simp, Sub.refl _, hB⟩, rfl, rfl, ?_⟩ ?_
  · conv => whnf
    repeat (refine ⟨rfl, ?_⟩; conv => whnf)
    exact trivial
  · rintro ⟨i, H', O⟩ ⟨h1, h2, h3⟩
    dsimp only at h1 h2 h3
    conv => whnf
    refine if_intro (fun hg => ?_) (fun hg => ?_)
    · have hi : i < n := by simpa using hg
      conv => whnf
      refine W_draw (pol := polL) Γok mixes [(0, .pend), (1, .pendO), (2, .pendO), (6, .pend), (3, .lock), (4, .pend), (5, .pend), (7, .lock), (8, .pendO), (9, .lock)] 25 (by kernel_rfl) rfl ?_
      conv => whnf
      refine (((hf i hi).up hs1).up h2).use fun r H2 hs2 hr => ?_
      subst hr
      conv => whnf
      obtain ⟨b0, off, b, r, rfl, hb, hr, hl, hO, hrd⟩ := (h3.up (h2.trans hs2)).row (ht i hi)
      have hti := ht i hi
      conv => whnf
      refine dec_intro (by omega) ?_
      conv => whnf
      refine ⟨_, hrd _, ?_⟩
      conv => whnf
      refine (c74 _).val fun H3 hs3 => ?_
      conv => whnf
      refine dec_intro (by omega) ?_
      conv => whnf
      refine ⟨_, _, hO, ?_, ?_⟩
      · show _ ≤ (cellsN r).length
        rw [cellsN_length, hl]
        simp only [Int.toNat_natCast, List.length_cons, List.length_nil]
        omega
      conv => whnf
      refine ⟨(i + 1, H3, _), ⟨hi, h2.trans (hs2.trans hs3), h3.set hb hr hi oneN⟩, by dsimp only; omega, ?_⟩
      conv => whnf
      refine ⟨rfl, rfl, ?_⟩
      conv => whnf
      repeat (refine ⟨rfl, ?_⟩; conv => whnf)
      refine ⟨by show En.v (.int .i64 (IntKind.i64.wrap (i + 1))) = _; rw [wrap_id (by omega) (by omega)]; rfl, ?_⟩
      conv => whnf
      repeat (refine ⟨rfl, ?_⟩; conv => whnf)
      exact trivial
    · conv => whnf
      have hi : i = n := by simp at hg; omega
      subst hi
      exact ⟨bs, h3.up h2, hF.up h2⟩
theorem c143n (l : List (P4 × Int)) (hn : l.length < 1000000) (H : PH) (v : Value) (hv : NumH H v l) :
    Cl Tryz.prog 143 [v] H emp fun r H' M' => ∃ bs, RowsB H' M' r bs l.length l.length (diagM l l.length) ∧ ListN H H' r bs l.length l.length := by
  obtain ⟨lb, lc, rfl, _⟩ := id hv
  refine Cl_of (pol := polL) Γok Tryz.func143 (by kernel_rfl) rfl ?_
  conv => whnf
  refine (c73n l.length l.length hn hn H).mono fun r H1 M1 hs1 hq => ?_
  obtain ⟨bs, base, cap, rfl, hB, hF⟩ := hq
  conv => whnf
  refine W_loop (pol := polL) Γok (Nat × PH × PH) (fun i => i.1 ≤ l.length ∧ Sub H1 i.2.1 ∧ RowsB H1 i.2.2 (.slice base l.length cap) bs l.length l.length (diagM l i.1)) (fun i => l.length - i.1) (fun i => [(13, .v (.int .i64 i.1))]) (fun _ => []) (fun i => i.2.1) (fun i => i.2.2) ⟨(0, H1, M1), ⟨by simp, Sub.refl _, hB⟩, rfl, rfl, ?_⟩ ?_
  · conv => whnf
    repeat (refine ⟨rfl, ?_⟩; conv => whnf)
    exact trivial
  · rintro ⟨i, H', O⟩ ⟨h1, h2, h3⟩
    dsimp only at h1 h2 h3
    conv => whnf
    refine if_intro (fun hg => ?_) (fun hg => ?_)
    · have hi : i < l.length := by simpa using hg
      obtain ⟨_, lb0, loff, rfl, hlrd⟩ := ((hv.up hs1).up h2).rd (O := emp) hi
      conv => whnf
      refine dec_intro (by omega) ?_
      conv => whnf
      refine ⟨_, hlrd.anyO, ?_⟩
      conv => whnf
      intro bx
      conv => whnf
      refine W_draw (pol := polL) Γok mixes [(0, .pendO), (1, .pendO), (2, .pendO), (3, .pendO), (4, .pendO), (5, .pendO), (6, .pendO), (7, .lock)] 27 (by kernel_rfl) rfl ?_
      obtain ⟨b0, off, b, r, rfl, hb, hr, hl, hO, hrd⟩ := (h3.up h2).row hi
      conv => whnf
      refine dec_intro (by omega) ?_
      conv => whnf
      refine ⟨_, hrd _, ?_⟩
      conv => whnf
      refine dec_intro (by omega) ?_
      conv => whnf
      refine ⟨_, _, hO, ?_, ?_⟩
      · show _ ≤ (cellsN r).length
        rw [cellsN_length, hl]
        simp only [Int.toNat_natCast, List.length_cons, List.length_nil]
        omega
      conv => whnf
      refine ⟨(i + 1, H', _), ⟨hi, h2, h3.set hb hr hi (l.getD i (P4.zero, 0))⟩, by dsimp only; omega, ?_⟩
      have hg : l.getD i (P4.zero, 0) = l[i] := by simp [List.getD_eq_getElem?_getD, hi]
      rw [hg]
      conv => whnf
      refine ⟨rfl, rfl, ?_⟩
      conv => whnf
      repeat (refine ⟨rfl, ?_⟩; conv => whnf)
      refine ⟨by show En.v (.int .i64 (IntKind.i64.wrap (i + 1))) = _; rw [wrap_id (by omega) (by omega)]; rfl, ?_⟩
      conv => whnf
      repeat (refine ⟨rfl, ?_⟩; conv => whnf)
      exact trivial
    · conv => whnf
      have hi : i = l.length := by simp at hg; omega
      subst hi
      exact ⟨bs, h3.up h2, hF.up h2⟩
theorem c20n (n : Nat) (hn : n ≤ 6) (H : PH) : Cl Tryz.prog 20 [.int .i64 n] H emp fun r H' M' => ∃ u bs, r = .tuple #[u, .int .i64 0] ∧ RowsB H' M' u bs (2 ^ n) (2 ^ n) (idM (2 ^ n) (2 ^ n)) ∧ ListN H H' u bs (2 ^ n) (2 ^ n) := by
  have p2 : 2 ^ n < 1000000 := by
    have : 2 ^ n ≤ 2 ^ 6 := Nat.pow_le_pow_right (by decide) hn
    omega
  have key : ∀ s : Nat, s = 2 ^ n → (s : Int) = 2 ^ n := fun s h => by rw [h]; simp
  refine Cl_of (pol := polL) Γok Tryz.func20 (by kernel_rfl) rfl ?_
  conv => whnf
  refine if_intro (fun h => ?_) (fun h => ?_)
  · simp at h
    omega
  conv => whnf
  refine W_draw (pol := polL) Γok mixes [(0, .pendO), (1, .pendO), (2, .pendO), (3, .pendO), (4, .lock), (5, .pendO)] 31 (by kernel_rfl) rfl ?_
  conv => whnf
  rw [shl1 (by omega)]
  obtain ⟨s, hs⟩ : ∃ s, s = 2 ^ n := ⟨_, rfl⟩
  rw [← hs] at p2 ⊢
  refine (c73n s s p2 p2 H).mono fun r H1 M1 hs1 hq => ?_
  obtain ⟨bs, base, cap, rfl, hB, hF⟩ := hq
  conv => whnf
  refine W_loop (pol := polL) Γok (Nat × PH × PH) (fun i => i.1 ≤ s ∧ Sub H1 i.2.1 ∧ RowsB H1 i.2.2 (.slice base s cap) bs s s (idM s i.1)) (fun i => s - i.1) (fun i => [(19, .v (.int .i64 i.1))]) (fun _ => []) (fun i => i.2.1) (fun i => i.2.2) ⟨(0, H1, M1), ⟨by simp, Sub.refl _, hB⟩, rfl, rfl, ?_⟩ ?_
  · conv => whnf
    repeat (refine ⟨rfl, ?_⟩; conv => whnf)
    exact trivial
  · rintro ⟨i, H', O⟩ ⟨h1, h2, h3⟩
    dsimp only at h1 h2 h3
    conv => whnf
    refine if_intro (fun hg => ?_) (fun hg => ?_)
    · have hi : i < s := by simpa using hg
      conv => whnf
      refine W_draw (pol := polL) Γok mixes [(0, .pend), (1, .pend), (2, .pend), (3, .pend), (4, .pend), (5, .lock), (6, .pendO), (7, .lock)] 31 (by kernel_rfl) rfl ?_
      obtain ⟨b0, off, b, r, rfl, hb, hr, hl, hO, hrd⟩ := (h3.up h2).row hi
      conv => whnf
      refine dec_intro (by omega) ?_
      conv => whnf
      refine ⟨_, hrd _, ?_⟩
      conv => whnf
      refine (c74 _).val fun H3 hs3 => ?_
      conv => whnf
      refine dec_intro (by omega) ?_
      conv => whnf
      refine ⟨_, _, hO, ?_, ?_⟩
      · show _ ≤ (cellsN r).length
        rw [cellsN_length, hl]
        simp only [Int.toNat_natCast, List.length_cons, List.length_nil]
        omega
      conv => whnf
      refine ⟨(i + 1, H3, _), ⟨hi, h2.trans hs3, h3.set hb hr hi oneN⟩, by dsimp only; omega, ?_⟩
      conv => whnf
      refine ⟨rfl, rfl, ?_⟩
      conv => whnf
      repeat (refine ⟨rfl, ?_⟩; conv => whnf)
      refine ⟨by show En.v (.int .i64 (IntKind.i64.wrap (i + 1))) = _; rw [wrap_id (by omega) (by omega)]; rfl, ?_⟩
      conv => whnf
      repeat (refine ⟨rfl, ?_⟩; conv => whnf)
      exact trivial
    · conv => whnf
      have hi : i = s := by simp at hg; omega
      subst hi
      exact ⟨_, bs, rfl, h3.up h2, hF.up h2⟩
theorem c133m (t : Nat → Nat) (n : Nat) (hn : n < 1000000) (ht : ∀ k, k < n → t k < n) (H : PH) (fn : Fn) (first cp : Array Value) (hf : ∀ k, k < n → Does Tryz.prog H (.func fn first cp) [.int .i64 k] fun r _ => r = .int .i64 (t k)) :
    Cl Tryz.prog 133 [.int .i64 n, .func fn first cp] H emp fun r H' _ => MatN H H' r (movedM t n n) :=
  (c133n t n hn ht H fn first cp hf).repart fun _ _ _ hs hd ⟨_, h, k⟩ => ⟨_, _, .all hd, h.new hs hd hn hn k⟩
theorem c143m (l : List (P4 × Int)) (hn : l.length < 1000000) (H : PH) (v : Value) (hv : NumH H v l) :
    Cl Tryz.prog 143 [v] H emp fun r H' _ => MatN H H' r (diagM l l.length) :=
  (c143n l hn H v hv).repart fun _ _ _ hs hd ⟨_, h, k⟩ => ⟨_, _, .all hd, h.new hs hd hn hn k⟩
theorem OwnM.sub {M M' : PH} {v : Value} {h w : Nat} {m : Mx} (hm : OwnM M v h w m) (hs : ∀ n o, M n = some o → M' n = some o) : OwnM M' v h w m := hm.up hs
/-- What is new is one's own, if one likes. -/
theorem Cl.mine {f : FuncId} {args : List Value} {H : PH} {m : Mx} {Q : Value → Value → Prop} (h : Cl Tryz.prog f args H emp fun r H' _ => ∃ u, Q r u ∧ MatN H H' u m) : Cl Tryz.prog f args H emp fun r _ M' => ∃ u, Q r u ∧ OwnQ M' u m :=
  (Cl.own h).mono fun r H2 M2 _ hq => by
    obtain ⟨rfl, H', M', ⟨u, q, a, b, h1, h2, h3⟩, _, _, _, h7⟩ := hq
    refine ⟨u, q, .inr ⟨a, b, h1, h2, h3.up fun n o hn => ?_⟩⟩
    unfold newH at hn
    cases e : H2 n with
    | some _ => rw [e] at hn; cases hn
    | none => rw [e] at hn; exact h7 n o e hn
theorem c20m (n : Nat) (hn : n ≤ 6) (H : PH) : Cl Tryz.prog 20 [.int .i64 n] H emp fun r _ M' => ∃ u, r = .tuple #[u, .int .i64 0] ∧ OwnQ M' u (idM (2 ^ n) (2 ^ n)) := by
  have p2 : 2 ^ n < 1000000 := by
    have : 2 ^ n ≤ 2 ^ 6 := Nat.pow_le_pow_right (by decide) hn
    omega
  exact Cl.mine (Q := fun r u => r = .tuple #[u, .int .i64 0]) ((c20n n hn H).repart fun _ _ _ hs hd ⟨u, _, h1, h, k⟩ => ⟨_, _, .all hd, u, h1, h.new hs hd p2 p2 k⟩)
end Go.Proofs.YtbbjhegapilhpaaGreat

namespace Go.Proofs.YtbbjhegapilhpaaGreat
open Go.Proofs.YtbbjhegapilhpaaGreat.X Go.Proofs.YtbbjhegapilhpaaGreat.X.PH
set_option maxRecDepth 100000

theorem newH_sub (H0 H : PH) : Sub (newH H0 H) H := fun n o hn => by
  unfold newH at hn
  cases e : H0 n with
  | some _ => rw [e] at hn; cases hn
  | none => rw [e] at hn; exact hn
theorem MatN.mat {H0 H : PH} {v : Value} {m : Mx} (h : MatN H0 H v m) : MatH H v m := by
  obtain ⟨a, b, h1, h2, h3⟩ := h
  have := OwnM.share (H := emp) (fun n => .inl rfl) h3
  exact this.up fun n o hn => by
    have : newH H0 H n = some o := by simpa [un, emp] using hn
    exact newH_sub _ _ n o this
/-- Numbers that are new, and lie by themselves. -/
def NumN (H0 H : PH) (v : Value) (l : List (P4 × Int)) : Prop := ∃ b, v = .slice (some ⟨b, 0, none⟩) l.length l.length ∧ H0 b = none ∧ H b = some (.cells ⟨cellsN l⟩ 28 (0, 0))
theorem NumN.up {H0 H H' : PH} {v : Value} {l : List (P4 × Int)} (k : NumN H0 H v l) (hs : Sub H H') : NumN H0 H' v l := by
  obtain ⟨b0, h1, h2, h3⟩ := k
  exact ⟨b0, h1, h2, hs _ _ h3⟩
theorem fresh_of {H0 H : PH} (hS : Sub H0 H) {b : Nat} (hb : H b = none) : H0 b = none := by
  cases e : H0 b with
  | none => rfl
  | some o => rw [hS _ _ e] at hb; cases hb
theorem numN_new {H0 H : PH} (hS : Sub H0 H) {b : Nat} (hb : H b = none) {l : List (P4 × Int)} {c : List Value} (hc : c = cellsN l) {n : Nat} (hn : n = l.length) : NumN H0 (ins H b (.cells ⟨c⟩ 28 (0, 0))) (.slice (some ⟨b, 0, none⟩) n n) l := by
  subst hc hn
  exact ⟨b, rfl, fresh_of hS hb, ins_same _ _ _⟩
theorem mat2N {H0 H : PH} (hS : Sub H0 H) {b : Nat} (hb : H b = none) {u1 u2 : Value} {r1 r2 : List (P4 × Int)} (h1 : NumN H0 H u1 r1) (h2 : NumN H0 H u2 r2) (l1 : r1.length = 2) (l2 : r2.length = 2) (hne : cellsN r1 ≠ cellsN r2) :
    MatN H0 (ins H b (.cells ⟨[u1, u2]⟩ 50 (0, 0))) (.slice (some ⟨b, 0, none⟩) 2 2) [r1, r2] := by
  obtain ⟨b1, rfl, f1, k1⟩ := h1
  obtain ⟨b2, rfl, f2, k2⟩ := h2
  have n12 : b1 ≠ b2 := fun e => by
    subst e
    rw [k1] at k2
    injection k2 with k2
    injection k2 with k2
    injection k2 with k2
    exact hne k2
  have n1 : b1 ≠ b := fun e => by subst e; rw [hb] at k1; cases k1
  have n2 : b2 ≠ b := fun e => by subst e; rw [hb] at k2; cases k2
  rw [l1, l2]
  refine ⟨2, 2, by decide, by decide, rfl, fun i r hr => ?_, [b1, b2], b, ⟨rfl, by simp [n12], fun i c r hc hr => ?_⟩, by simp [n1.symm, n2.symm], rfl, newH_some (fresh_of hS hb) (ins_same _ _ _)⟩
  · match i, hr with
    | 0, hr => cases hr; exact l1
    | 1, hr => cases hr; exact l2
  · match i, hc, hr with
    | 0, hc, hr => cases hc; cases hr; exact newH_some f1 ((ins_ne _ _ n1).trans k1)
    | 1, hc, hr => cases hc; cases hr; exact newH_some f2 ((ins_ne _ _ n2).trans k2)
def vInts (l : List Value) : List Int := l.map fun
  | .int _ n => n
  | _ => 0
def Sp.holdsN (H0 H : PH) (v : Value) : Sp → Prop
  | .skip => True
  | .val _ => True
  | .nums l => NumN H0 H v l
  | .mat m => MatN H0 H v m
theorem Sp.upN {H0 H H' : PH} {v : Value} {s : Sp} (hs : Sub H H') (h : s.holdsN H0 H v) : s.holdsN H0 H' v := by
  cases s with
  | skip => exact trivial
  | val x => exact trivial
  | nums l => exact NumN.up h hs
  | mat m => exact MatN.up h hs
def IOn (H0 : PH) (L : Nat → Bool) (V : Nat → Value) (H O : PH) : Prop := IO L V H O ∧ Sub H0 H ∧ ∀ (i : Nat) s, spO[i]? = some s → L i = true → s.holdsN H0 H (V i)
theorem holdsN_set {H0 : PH} {L : Nat → Bool} {V : Nat → Value} {H H2 : PH} {i : Nat} {v : Value} {s : Sp} (hI : ∀ (i : Nat) s, spO[i]? = some s → L i = true → s.holdsN H0 H (V i)) (hs : Sub H H2) (hsp : spO[i]? = some s) (hv : s.holdsN H0 H2 v) :
    ∀ (j : Nat) s, spO[j]? = some s → setL L i j = true → s.holdsN H0 H2 (setV V i v j) := by
  intro j s' hj hL
  by_cases e : j = i
  · subst e
    rw [hsp] at hj
    cases hj
    rw [setV_same]
    exact hv
  · rw [setL_ne L e] at hL
    rw [setV_ne V v e]
    exact Sp.upN hs (hI j s' hj hL)
theorem IOn_step {H0 : PH} {L : Nat → Bool} {V : Nat → Value} {H O H2 : PH} {i : Nat} {v : Value} {s : Sp} (hI : IOn H0 L V H O) (hLi : L i = false) (hs : Sub H H2) (hsp : spO[i]? = some s) (hv : s.holds H2 v) (hvn : s.holdsN H0 H2 v)
    (hn : i ≠ 0 ∧ i ≠ 65 ∧ i ≠ 66 ∧ ∀ x ∈ tabO, x.2.1 ≠ i) : IOn H0 (setL L i) (setV V i v) H2 O :=
  ⟨IO_step hI.1 hLi hs hsp hv hn, hI.2.1.trans hs, holdsN_set hI.2.2 hs hsp hvn⟩
theorem IOn_map {H0 : PH} {L : Nat → Bool} {V : Nat → Value} {H O : PH} {b : Nat} (hI : IOn H0 L V H O) (hL : L 0 = false) : IOn H0 (setL L 0) (setV V 0 (.map (some b))) H (ins O b (.map #[] 0)) :=
  ⟨IO_map hI.1 hL, hI.2.1, holdsN_set hI.2.2 (Sub.refl _) (s := .skip) rfl trivial⟩
theorem skipO : ∀ y ∈ tabO, spO[y.2.1]? = some .skip := by
  intro y hy
  simp only [tabO, List.mem_cons, List.not_mem_nil, or_false] at hy
  rcases hy with rfl | rfl | rfl | rfl | rfl | rfl | rfl | rfl | rfl | rfl | rfl | rfl
  all_goals rfl
theorem IOn_ins {H0 : PH} {L : Nat → Bool} {V : Nat → Value} {H O : PH} {x : Nat × Nat × Nat} (hx : x ∈ tabO) {b : Nat} {es : List MapEntry} {clk : Nat} (hI : IOn H0 L V H O) (hL : L x.2.1 = false) (hsrc : L x.2.2 = true) (h0 : L 0 = true)
    (hV0 : V 0 = .map (some b)) (hO : O b = some (.map ⟨es⟩ clk)) {u : Value} (hu : V x.2.2 = u) : IOn H0 (setL L x.2.1) (setV V x.2.1 undef) H (ins O b (.map ((⟨es⟩ : Array MapEntry).push { key := .int .i64 x.1, val := u, born := clk }) (clk + 1))) :=
  ⟨IO_ins hx hI.1 hL hsrc h0 hV0 hO hu, hI.2.1, holdsN_set hI.2.2 (Sub.refl _) (s := .skip) (skipO x hx) trivial⟩
theorem IOn_same {H0 : PH} {L : Nat → Bool} {V : Nat → Value} {H O : PH} {i : Nat} {v : Value} (hI : IOn H0 L V H O) (hLi : L i = false) (h0 : L 0 = true) (hi : i = 65 ∨ i = 66) (hv : ∀ b, V 0 = .map (some b) → v = .map (some b)) : IOn H0 (setL L i) (setV V i v) H O :=
  ⟨IO_same hI.1 hLi h0 hi hv, hI.2.1, holdsN_set hI.2.2 (Sub.refl _) (s := .skip) (by rcases hi with rfl | rfl <;> rfl) trivial⟩
/-- What is looked up in the map of the operators: all new. -/
def OpsN (H0 H : PH) (r : Value) : Prop := ∃ b es clk, r = .map (some b) ∧ H b = some (.map ⟨es⟩ clk) ∧ (∀ k, 1 ≤ k → k ≤ 12 → ∃ j u, Instr.findNow (.int .i64) (.int .i64 (k : Nat)) es 0 = some (some (j, u)) ∧ MatN H0 H u (opM k)) ∧ ∀ n : Int, n < 1 ∨ 12 < n → Instr.findNow (.int .i64) (.int .i64 n) es 0 = some none
theorem c75n (H : PH) : Cl Tryz.prog 75 [] H emp fun r H' _ => OpsN H H' r := by
  refine Cl.repart (Q := fun r H' M' => ∃ b es clk, r = .map (some b) ∧ M' b = some (.map ⟨es⟩ clk) ∧ (∀ k, 1 ≤ k → k ≤ 12 → ∃ j u, Instr.findNow (.int .i64) (.int .i64 (k : Nat)) es 0 = some (some (j, u)) ∧ MatN H H' u (opM k)) ∧ ∀ n : Int, n < 1 ∨ 12 < n → Instr.findNow (.int .i64) (.int .i64 n) es 0 = some none) ?_ fun r H' M' _ hd ⟨b, es, clk, h1, h2, h3, h4⟩ => ⟨_, _, .one hd h2, b, es, clk, h1, ins_same _ _ _, fun k k1 k2 => by
    obtain ⟨j, u, h5, h6⟩ := h3 k k1 k2
    exact ⟨j, u, h5, h6.up (sub_ins _ _ ((hd b).resolve_right (by rw [h2]; simp)))⟩, h4⟩
  refine Cl_of (pol := polO) Γok Tryz.func75 (by kernel_rfl) rfl ?_
  conv => whnf
  refine (c140 1 _).val fun H1 s1 => ?_
  conv => whnf
  intro b2
  conv => whnf
  refine (c141 rootN _).val fun H2 s2 => ?_
  conv => whnf
  intro b4
  conv => whnf
  refine W_free (pol := polO) Γok mixes 69 (by kernel_rfl) rfl (IOn H) ⟨⟨fun i s _ h => (by cases h), fun x _ h => (by cases h), fun h => (by cases h), fun _ => ⟨fun _ _ => rfl, rfl, rfl⟩⟩, s1.trans s2, fun i s _ h => (by cases h)⟩ ?_ ?_
  · intro i o ho L V H' O' hI hLi hsee
    have hi : i < 67 := (List.getElem?_eq_some_iff.1 ho).1
    have get : ∀ (j : Nat) s, spO[j]? = some s → seesB _ o j = true → s.holds H' (V j) := fun j s hj h => hI.1.1 j s hj (hsee j h)
    obtain rfl | rfl | rfl | rfl | rfl | rfl | rfl | rfl | rfl | rfl | rfl | rfl | rfl | rfl | rfl | rfl | rfl | rfl | rfl | rfl | rfl | rfl | rfl | rfl | rfl | rfl | rfl | rfl | rfl | rfl | rfl | rfl | rfl | rfl | rfl | rfl | rfl | rfl | rfl | rfl | rfl | rfl | rfl | rfl | rfl | rfl | rfl | rfl | rfl | rfl | rfl | rfl | rfl | rfl | rfl | rfl | rfl | rfl | rfl | rfl | rfl | rfl | rfl | rfl | rfl | rfl | rfl : i = 0 ∨ i = 1 ∨ i = 2 ∨ i = 3 ∨ i = 4 ∨ i = 5 ∨ i = 6 ∨ i = 7 ∨ i = 8 ∨ i = 9 ∨ i = 10 ∨ i = 11 ∨ i = 12 ∨ i = 13 ∨ i = 14 ∨ i = 15 ∨ i = 16 ∨ i = 17 ∨ i = 18 ∨ i = 19 ∨ i = 20 ∨ i = 21 ∨ i = 22 ∨ i = 23 ∨ i = 24 ∨ i = 25 ∨ i = 26 ∨ i = 27 ∨ i = 28 ∨ i = 29 ∨ i = 30 ∨ i = 31 ∨ i = 32 ∨ i = 33 ∨ i = 34 ∨ i = 35 ∨ i = 36 ∨ i = 37 ∨ i = 38 ∨ i = 39 ∨ i = 40 ∨ i = 41 ∨ i = 42 ∨ i = 43 ∨ i = 44 ∨ i = 45 ∨ i = 46 ∨ i = 47 ∨ i = 48 ∨ i = 49 ∨ i = 50 ∨ i = 51 ∨ i = 52 ∨ i = 53 ∨ i = 54 ∨ i = 55 ∨ i = 56 ∨ i = 57 ∨ i = 58 ∨ i = 59 ∨ i = 60 ∨ i = 61 ∨ i = 62 ∨ i = 63 ∨ i = 64 ∨ i = 65 ∨ i = 66 := by omega
    · -- 0
      cases ho
      conv => whnf
      intro b hb hO
      exact ⟨⟨_, rfl⟩, _, rfl, IOn_map hI hLi⟩
    · -- 1
      cases ho
      conv => whnf
      refine (c133m tX 2 (by decide) (by decide) _ (.func 142) #[] #[] (fun k hk => ⟨142, [], [], rfl, fun H4 _ => c142b k hk H4⟩)).use fun u H3 s3 hq => ?_
      obtain ⟨_, hq⟩ := hq
      conv => whnf
      exact ⟨⟨_, rfl⟩, _, rfl, IOn_step hI hLi s3 rfl hq.mat (hq.base hI.2.1) (by decide)⟩
    · -- 2
      cases ho
      have h0 := hsee 0 (by kernel_rfl)
      have hs := hsee 1 (by kernel_rfl)
      obtain ⟨b, es, clk, hV0, hO, hF, _⟩ := hI.1.2.2.1 h0
      conv => whnf
      unfold enterK
      refine ⟨.i64, 1, b, ⟨es⟩, clk, rfl, hV0, hO, (hF 1 0).1 (keyVal_none (x := (1, 2, 1)) (by decide) hLi), ?_⟩
      conv => whnf
      exact ⟨⟨_, rfl⟩, _, rfl, IOn_ins (x := (1, 2, 1)) (by decide) hI hLi hs h0 hV0 hO rfl⟩
    · -- 3
      cases ho
      conv => whnf
      exact ⟨⟨_, rfl⟩, _, rfl, IOn_step hI hLi (Sub.refl _) rfl rfl trivial (by decide)⟩
    · -- 4
      cases ho
      conv => whnf
      exact ⟨⟨_, rfl⟩, _, rfl, IOn_step hI hLi (Sub.refl _) rfl rfl trivial (by decide)⟩
    · -- 5
      cases ho
      have h := get 4 _ rfl (by kernel_rfl)
      change V 4 = _ at h
      conv => whnf
      rw [h]
      conv => whnf
      refine (c54 6 _).val fun H3 s3 => ?_
      conv => whnf
      exact ⟨⟨_, rfl⟩, _, rfl, IOn_step hI hLi s3 rfl rfl trivial (by decide)⟩
    · -- 6
      cases ho
      conv => whnf
      have h3 := get 3 _ rfl (by kernel_rfl)
      change V 3 = _ at h3
      have h5 := get 5 _ rfl (by kernel_rfl)
      change V 5 = _ at h5
      rw [h3]
      conv => whnf
      rw [h5]
      conv => whnf
      intro b hb hO
      conv => whnf
      exact ⟨⟨_, rfl⟩, _, rfl, IOn_step hI hLi (sub_ins _ _ hb) rfl (pair_num (ins_same _ _ _)) (numN_new hI.2.1 hb rfl rfl) (by decide)⟩
    · -- 7
      cases ho
      conv => whnf
      exact ⟨⟨_, rfl⟩, _, rfl, IOn_step hI hLi (Sub.refl _) rfl rfl trivial (by decide)⟩
    · -- 8
      cases ho
      have h := get 7 _ rfl (by kernel_rfl)
      change V 7 = _ at h
      conv => whnf
      rw [h]
      conv => whnf
      refine (c54 2 _).val fun H3 s3 => ?_
      conv => whnf
      exact ⟨⟨_, rfl⟩, _, rfl, IOn_step hI hLi s3 rfl rfl trivial (by decide)⟩
    · -- 9
      cases ho
      conv => whnf
      exact ⟨⟨_, rfl⟩, _, rfl, IOn_step hI hLi (Sub.refl _) rfl rfl trivial (by decide)⟩
    · -- 10
      cases ho
      conv => whnf
      have h8 := get 8 _ rfl (by kernel_rfl)
      change V 8 = _ at h8
      have h9 := get 9 _ rfl (by kernel_rfl)
      change V 9 = _ at h9
      rw [h8]
      conv => whnf
      rw [h9]
      conv => whnf
      intro b hb hO
      conv => whnf
      exact ⟨⟨_, rfl⟩, _, rfl, IOn_step hI hLi (sub_ins _ _ hb) rfl (pair_num (ins_same _ _ _)) (numN_new hI.2.1 hb rfl rfl) (by decide)⟩
    · -- 11
      cases ho
      have h6 := get 6 _ rfl (by kernel_rfl)
      change NumH _ (V 6) _ at h6
      obtain ⟨base6, cap6, e6, _⟩ := id h6
      have h10 := get 10 _ rfl (by kernel_rfl)
      change NumH _ (V 10) _ at h10
      obtain ⟨base10, cap10, e10, _⟩ := id h10
      conv => whnf
      rw [e6]
      conv => whnf
      rw [e10]
      conv => whnf
      intro b hb hO
      conv => whnf
      have f6 := h6
      rw [e6] at f6
      have f10 := h10
      rw [e10] at f10
      refine ⟨⟨_, rfl⟩, _, rfl, IOn_step hI hLi (sub_ins _ _ hb) rfl (mat2 (ins_same _ _ _) ?_ ?_) ?_ (by decide)⟩
      · exact f6.up (sub_ins _ _ hb)
      · exact f10.up (sub_ins _ _ hb)
      · have g6 := hI.2.2 6 _ rfl (hsee 6 (by kernel_rfl))
        change NumN _ _ (V 6) _ at g6
        rw [e6] at g6
        have g10 := hI.2.2 10 _ rfl (hsee 10 (by kernel_rfl))
        change NumN _ _ (V 10) _ at g10
        rw [e10] at g10
        exact mat2N hI.2.1 hb g6 g10 rfl rfl fun e => absurd (congrArg vInts e) (by decide +kernel)
    · -- 12
      cases ho
      have h0 := hsee 0 (by kernel_rfl)
      have hs := hsee 11 (by kernel_rfl)
      obtain ⟨b, es, clk, hV0, hO, hF, _⟩ := hI.1.2.2.1 h0
      conv => whnf
      unfold enterK
      refine ⟨.i64, 2, b, ⟨es⟩, clk, rfl, hV0, hO, (hF 2 0).1 (keyVal_none (x := (2, 12, 11)) (by decide) hLi), ?_⟩
      conv => whnf
      exact ⟨⟨_, rfl⟩, _, rfl, IOn_ins (x := (2, 12, 11)) (by decide) hI hLi hs h0 hV0 hO rfl⟩
    · -- 13
      cases ho
      conv => whnf
      refine (c74 _).val fun H3 s3 => ?_
      conv => whnf
      exact ⟨⟨_, rfl⟩, _, rfl, IOn_step hI hLi s3 rfl rfl trivial (by decide)⟩
    · -- 14
      cases ho
      conv => whnf
      exact ⟨⟨_, rfl⟩, _, rfl, IOn_step hI hLi (Sub.refl _) rfl rfl trivial (by decide)⟩
    · -- 15
      cases ho
      have h := get 14 _ rfl (by kernel_rfl)
      change V 14 = _ at h
      conv => whnf
      rw [h]
      conv => whnf
      refine (c54 4 _).val fun H3 s3 => ?_
      conv => whnf
      exact ⟨⟨_, rfl⟩, _, rfl, IOn_step hI hLi s3 rfl rfl trivial (by decide)⟩
    · -- 16
      cases ho
      conv => whnf
      have h13 := get 13 _ rfl (by kernel_rfl)
      change V 13 = _ at h13
      have h15 := get 15 _ rfl (by kernel_rfl)
      change V 15 = _ at h15
      rw [h13]
      conv => whnf
      rw [h15]
      conv => whnf
      intro b hb hO
      conv => whnf
      exact ⟨⟨_, rfl⟩, _, rfl, IOn_step hI hLi (sub_ins _ _ hb) rfl (pair_num (ins_same _ _ _)) (numN_new hI.2.1 hb rfl rfl) (by decide)⟩
    · -- 17
      cases ho
      have h := get 16 _ rfl (by kernel_rfl)
      conv => whnf
      refine (c143m _ (by decide) _ _ h).use fun u H3 s3 hq => ?_
      obtain ⟨_, hq⟩ := hq
      conv => whnf
      exact ⟨⟨_, rfl⟩, _, rfl, IOn_step hI hLi s3 rfl hq.mat (hq.base hI.2.1) (by decide)⟩
    · -- 18
      cases ho
      have h0 := hsee 0 (by kernel_rfl)
      have hs := hsee 17 (by kernel_rfl)
      obtain ⟨b, es, clk, hV0, hO, hF, _⟩ := hI.1.2.2.1 h0
      conv => whnf
      unfold enterK
      refine ⟨.i64, 3, b, ⟨es⟩, clk, rfl, hV0, hO, (hF 3 0).1 (keyVal_none (x := (3, 18, 17)) (by decide) hLi), ?_⟩
      conv => whnf
      exact ⟨⟨_, rfl⟩, _, rfl, IOn_ins (x := (3, 18, 17)) (by decide) hI hLi hs h0 hV0 hO rfl⟩
    · -- 19
      cases ho
      conv => whnf
      exact ⟨⟨_, rfl⟩, _, rfl, IOn_step hI hLi (Sub.refl _) rfl rfl trivial (by decide)⟩
    · -- 20
      cases ho
      conv => whnf
      exact ⟨⟨_, rfl⟩, _, rfl, IOn_step hI hLi (Sub.refl _) rfl rfl trivial (by decide)⟩
    · -- 21
      cases ho
      conv => whnf
      have h19 := get 19 _ rfl (by kernel_rfl)
      change V 19 = _ at h19
      have h20 := get 20 _ rfl (by kernel_rfl)
      change V 20 = _ at h20
      rw [h19]
      conv => whnf
      rw [h20]
      conv => whnf
      intro b hb hO
      conv => whnf
      exact ⟨⟨_, rfl⟩, _, rfl, IOn_step hI hLi (sub_ins _ _ hb) rfl (pair_num (ins_same _ _ _)) (numN_new hI.2.1 hb rfl rfl) (by decide)⟩
    · -- 22
      cases ho
      conv => whnf
      exact ⟨⟨_, rfl⟩, _, rfl, IOn_step hI hLi (Sub.refl _) rfl rfl trivial (by decide)⟩
    · -- 23
      cases ho
      conv => whnf
      exact ⟨⟨_, rfl⟩, _, rfl, IOn_step hI hLi (Sub.refl _) rfl rfl trivial (by decide)⟩
    · -- 24
      cases ho
      conv => whnf
      have h22 := get 22 _ rfl (by kernel_rfl)
      change V 22 = _ at h22
      have h23 := get 23 _ rfl (by kernel_rfl)
      change V 23 = _ at h23
      rw [h22]
      conv => whnf
      rw [h23]
      conv => whnf
      intro b hb hO
      conv => whnf
      exact ⟨⟨_, rfl⟩, _, rfl, IOn_step hI hLi (sub_ins _ _ hb) rfl (pair_num (ins_same _ _ _)) (numN_new hI.2.1 hb rfl rfl) (by decide)⟩
    · -- 25
      cases ho
      have h21 := get 21 _ rfl (by kernel_rfl)
      change NumH _ (V 21) _ at h21
      obtain ⟨base21, cap21, e21, _⟩ := id h21
      have h24 := get 24 _ rfl (by kernel_rfl)
      change NumH _ (V 24) _ at h24
      obtain ⟨base24, cap24, e24, _⟩ := id h24
      conv => whnf
      rw [e21]
      conv => whnf
      rw [e24]
      conv => whnf
      intro b hb hO
      conv => whnf
      have f21 := h21
      rw [e21] at f21
      have f24 := h24
      rw [e24] at f24
      refine ⟨⟨_, rfl⟩, _, rfl, IOn_step hI hLi (sub_ins _ _ hb) rfl (mat2 (ins_same _ _ _) ?_ ?_) ?_ (by decide)⟩
      · exact f21.up (sub_ins _ _ hb)
      · exact f24.up (sub_ins _ _ hb)
      · have g21 := hI.2.2 21 _ rfl (hsee 21 (by kernel_rfl))
        change NumN _ _ (V 21) _ at g21
        rw [e21] at g21
        have g24 := hI.2.2 24 _ rfl (hsee 24 (by kernel_rfl))
        change NumN _ _ (V 24) _ at g24
        rw [e24] at g24
        exact mat2N hI.2.1 hb g21 g24 rfl rfl fun e => absurd (congrArg vInts e) (by decide +kernel)
    · -- 26
      cases ho
      have h0 := hsee 0 (by kernel_rfl)
      have hs := hsee 25 (by kernel_rfl)
      obtain ⟨b, es, clk, hV0, hO, hF, _⟩ := hI.1.2.2.1 h0
      conv => whnf
      unfold enterK
      refine ⟨.i64, 4, b, ⟨es⟩, clk, rfl, hV0, hO, (hF 4 0).1 (keyVal_none (x := (4, 26, 25)) (by decide) hLi), ?_⟩
      conv => whnf
      exact ⟨⟨_, rfl⟩, _, rfl, IOn_ins (x := (4, 26, 25)) (by decide) hI hLi hs h0 hV0 hO rfl⟩
    · -- 27
      cases ho
      conv => whnf
      refine (c74 _).val fun H3 s3 => ?_
      conv => whnf
      exact ⟨⟨_, rfl⟩, _, rfl, IOn_step hI hLi s3 rfl rfl trivial (by decide)⟩
    · -- 28
      cases ho
      conv => whnf
      exact ⟨⟨_, rfl⟩, _, rfl, IOn_step hI hLi (Sub.refl _) rfl rfl trivial (by decide)⟩
    · -- 29
      cases ho
      have h := get 28 _ rfl (by kernel_rfl)
      change V 28 = _ at h
      conv => whnf
      rw [h]
      conv => whnf
      refine (c54 2 _).val fun H3 s3 => ?_
      conv => whnf
      exact ⟨⟨_, rfl⟩, _, rfl, IOn_step hI hLi s3 rfl rfl trivial (by decide)⟩
    · -- 30
      cases ho
      conv => whnf
      have h27 := get 27 _ rfl (by kernel_rfl)
      change V 27 = _ at h27
      have h29 := get 29 _ rfl (by kernel_rfl)
      change V 29 = _ at h29
      rw [h27]
      conv => whnf
      rw [h29]
      conv => whnf
      intro b hb hO
      conv => whnf
      exact ⟨⟨_, rfl⟩, _, rfl, IOn_step hI hLi (sub_ins _ _ hb) rfl (pair_num (ins_same _ _ _)) (numN_new hI.2.1 hb rfl rfl) (by decide)⟩
    · -- 31
      cases ho
      have h := get 30 _ rfl (by kernel_rfl)
      conv => whnf
      refine (c143m _ (by decide) _ _ h).use fun u H3 s3 hq => ?_
      obtain ⟨_, hq⟩ := hq
      conv => whnf
      exact ⟨⟨_, rfl⟩, _, rfl, IOn_step hI hLi s3 rfl hq.mat (hq.base hI.2.1) (by decide)⟩
    · -- 32
      cases ho
      have h0 := hsee 0 (by kernel_rfl)
      have hs := hsee 31 (by kernel_rfl)
      obtain ⟨b, es, clk, hV0, hO, hF, _⟩ := hI.1.2.2.1 h0
      conv => whnf
      unfold enterK
      refine ⟨.i64, 5, b, ⟨es⟩, clk, rfl, hV0, hO, (hF 5 0).1 (keyVal_none (x := (5, 32, 31)) (by decide) hLi), ?_⟩
      conv => whnf
      exact ⟨⟨_, rfl⟩, _, rfl, IOn_ins (x := (5, 32, 31)) (by decide) hI hLi hs h0 hV0 hO rfl⟩
    · -- 33
      cases ho
      conv => whnf
      refine (c74 _).val fun H3 s3 => ?_
      conv => whnf
      exact ⟨⟨_, rfl⟩, _, rfl, IOn_step hI hLi s3 rfl rfl trivial (by decide)⟩
    · -- 34
      cases ho
      conv => whnf
      exact ⟨⟨_, rfl⟩, _, rfl, IOn_step hI hLi (Sub.refl _) rfl rfl trivial (by decide)⟩
    · -- 35
      cases ho
      have h := get 34 _ rfl (by kernel_rfl)
      change V 34 = _ at h
      conv => whnf
      rw [h]
      conv => whnf
      refine (c54 6 _).val fun H3 s3 => ?_
      conv => whnf
      exact ⟨⟨_, rfl⟩, _, rfl, IOn_step hI hLi s3 rfl rfl trivial (by decide)⟩
    · -- 36
      cases ho
      conv => whnf
      have h33 := get 33 _ rfl (by kernel_rfl)
      change V 33 = _ at h33
      have h35 := get 35 _ rfl (by kernel_rfl)
      change V 35 = _ at h35
      rw [h33]
      conv => whnf
      rw [h35]
      conv => whnf
      intro b hb hO
      conv => whnf
      exact ⟨⟨_, rfl⟩, _, rfl, IOn_step hI hLi (sub_ins _ _ hb) rfl (pair_num (ins_same _ _ _)) (numN_new hI.2.1 hb rfl rfl) (by decide)⟩
    · -- 37
      cases ho
      have h := get 36 _ rfl (by kernel_rfl)
      conv => whnf
      refine (c143m _ (by decide) _ _ h).use fun u H3 s3 hq => ?_
      obtain ⟨_, hq⟩ := hq
      conv => whnf
      exact ⟨⟨_, rfl⟩, _, rfl, IOn_step hI hLi s3 rfl hq.mat (hq.base hI.2.1) (by decide)⟩
    · -- 38
      cases ho
      have h0 := hsee 0 (by kernel_rfl)
      have hs := hsee 37 (by kernel_rfl)
      obtain ⟨b, es, clk, hV0, hO, hF, _⟩ := hI.1.2.2.1 h0
      conv => whnf
      unfold enterK
      refine ⟨.i64, 6, b, ⟨es⟩, clk, rfl, hV0, hO, (hF 6 0).1 (keyVal_none (x := (6, 38, 37)) (by decide) hLi), ?_⟩
      conv => whnf
      exact ⟨⟨_, rfl⟩, _, rfl, IOn_ins (x := (6, 38, 37)) (by decide) hI hLi hs h0 hV0 hO rfl⟩
    · -- 39
      cases ho
      conv => whnf
      refine (c74 _).val fun H3 s3 => ?_
      conv => whnf
      exact ⟨⟨_, rfl⟩, _, rfl, IOn_step hI hLi s3 rfl rfl trivial (by decide)⟩
    · -- 40
      cases ho
      conv => whnf
      exact ⟨⟨_, rfl⟩, _, rfl, IOn_step hI hLi (Sub.refl _) rfl rfl trivial (by decide)⟩
    · -- 41
      cases ho
      have h := get 40 _ rfl (by kernel_rfl)
      change V 40 = _ at h
      conv => whnf
      rw [h]
      conv => whnf
      refine (c54 1 _).val fun H3 s3 => ?_
      conv => whnf
      exact ⟨⟨_, rfl⟩, _, rfl, IOn_step hI hLi s3 rfl rfl trivial (by decide)⟩
    · -- 42
      cases ho
      conv => whnf
      have h39 := get 39 _ rfl (by kernel_rfl)
      change V 39 = _ at h39
      have h41 := get 41 _ rfl (by kernel_rfl)
      change V 41 = _ at h41
      rw [h39]
      conv => whnf
      rw [h41]
      conv => whnf
      intro b hb hO
      conv => whnf
      exact ⟨⟨_, rfl⟩, _, rfl, IOn_step hI hLi (sub_ins _ _ hb) rfl (pair_num (ins_same _ _ _)) (numN_new hI.2.1 hb rfl rfl) (by decide)⟩
    · -- 43
      cases ho
      have h := get 42 _ rfl (by kernel_rfl)
      conv => whnf
      refine (c143m _ (by decide) _ _ h).use fun u H3 s3 hq => ?_
      obtain ⟨_, hq⟩ := hq
      conv => whnf
      exact ⟨⟨_, rfl⟩, _, rfl, IOn_step hI hLi s3 rfl hq.mat (hq.base hI.2.1) (by decide)⟩
    · -- 44
      cases ho
      have h0 := hsee 0 (by kernel_rfl)
      have hs := hsee 43 (by kernel_rfl)
      obtain ⟨b, es, clk, hV0, hO, hF, _⟩ := hI.1.2.2.1 h0
      conv => whnf
      unfold enterK
      refine ⟨.i64, 7, b, ⟨es⟩, clk, rfl, hV0, hO, (hF 7 0).1 (keyVal_none (x := (7, 44, 43)) (by decide) hLi), ?_⟩
      conv => whnf
      exact ⟨⟨_, rfl⟩, _, rfl, IOn_ins (x := (7, 44, 43)) (by decide) hI hLi hs h0 hV0 hO rfl⟩
    · -- 45
      cases ho
      conv => whnf
      refine (c74 _).val fun H3 s3 => ?_
      conv => whnf
      exact ⟨⟨_, rfl⟩, _, rfl, IOn_step hI hLi s3 rfl rfl trivial (by decide)⟩
    · -- 46
      cases ho
      conv => whnf
      exact ⟨⟨_, rfl⟩, _, rfl, IOn_step hI hLi (Sub.refl _) rfl rfl trivial (by decide)⟩
    · -- 47
      cases ho
      have h := get 46 _ rfl (by kernel_rfl)
      change V 46 = _ at h
      conv => whnf
      rw [h]
      conv => whnf
      refine (c54 7 _).val fun H3 s3 => ?_
      conv => whnf
      exact ⟨⟨_, rfl⟩, _, rfl, IOn_step hI hLi s3 rfl rfl trivial (by decide)⟩
    · -- 48
      cases ho
      conv => whnf
      have h45 := get 45 _ rfl (by kernel_rfl)
      change V 45 = _ at h45
      have h47 := get 47 _ rfl (by kernel_rfl)
      change V 47 = _ at h47
      rw [h45]
      conv => whnf
      rw [h47]
      conv => whnf
      intro b hb hO
      conv => whnf
      exact ⟨⟨_, rfl⟩, _, rfl, IOn_step hI hLi (sub_ins _ _ hb) rfl (pair_num (ins_same _ _ _)) (numN_new hI.2.1 hb rfl rfl) (by decide)⟩
    · -- 49
      cases ho
      have h := get 48 _ rfl (by kernel_rfl)
      conv => whnf
      refine (c143m _ (by decide) _ _ h).use fun u H3 s3 hq => ?_
      obtain ⟨_, hq⟩ := hq
      conv => whnf
      exact ⟨⟨_, rfl⟩, _, rfl, IOn_step hI hLi s3 rfl hq.mat (hq.base hI.2.1) (by decide)⟩
    · -- 50
      cases ho
      have h0 := hsee 0 (by kernel_rfl)
      have hs := hsee 49 (by kernel_rfl)
      obtain ⟨b, es, clk, hV0, hO, hF, _⟩ := hI.1.2.2.1 h0
      conv => whnf
      unfold enterK
      refine ⟨.i64, 8, b, ⟨es⟩, clk, rfl, hV0, hO, (hF 8 0).1 (keyVal_none (x := (8, 50, 49)) (by decide) hLi), ?_⟩
      conv => whnf
      exact ⟨⟨_, rfl⟩, _, rfl, IOn_ins (x := (8, 50, 49)) (by decide) hI hLi hs h0 hV0 hO rfl⟩
    · -- 51
      cases ho
      conv => whnf
      refine (c133m tCX 4 (by decide) (by decide) _ (.func 144) #[] #[] (fun k hk => ⟨144, [], [], rfl, fun H4 _ => c144 k hk H4⟩)).use fun u H3 s3 hq => ?_
      obtain ⟨_, hq⟩ := hq
      conv => whnf
      exact ⟨⟨_, rfl⟩, _, rfl, IOn_step hI hLi s3 rfl hq.mat (hq.base hI.2.1) (by decide)⟩
    · -- 52
      cases ho
      have h0 := hsee 0 (by kernel_rfl)
      have hs := hsee 51 (by kernel_rfl)
      obtain ⟨b, es, clk, hV0, hO, hF, _⟩ := hI.1.2.2.1 h0
      conv => whnf
      unfold enterK
      refine ⟨.i64, 9, b, ⟨es⟩, clk, rfl, hV0, hO, (hF 9 0).1 (keyVal_none (x := (9, 52, 51)) (by decide) hLi), ?_⟩
      conv => whnf
      exact ⟨⟨_, rfl⟩, _, rfl, IOn_ins (x := (9, 52, 51)) (by decide) hI hLi hs h0 hV0 hO rfl⟩
    · -- 53
      cases ho
      conv => whnf
      refine (c74 _).val fun H3 s3 => ?_
      conv => whnf
      exact ⟨⟨_, rfl⟩, _, rfl, IOn_step hI hLi s3 rfl rfl trivial (by decide)⟩
    · -- 54
      cases ho
      conv => whnf
      refine (c74 _).val fun H3 s3 => ?_
      conv => whnf
      exact ⟨⟨_, rfl⟩, _, rfl, IOn_step hI hLi s3 rfl rfl trivial (by decide)⟩
    · -- 55
      cases ho
      conv => whnf
      refine (c74 _).val fun H3 s3 => ?_
      conv => whnf
      exact ⟨⟨_, rfl⟩, _, rfl, IOn_step hI hLi s3 rfl rfl trivial (by decide)⟩
    · -- 56
      cases ho
      conv => whnf
      exact ⟨⟨_, rfl⟩, _, rfl, IOn_step hI hLi (Sub.refl _) rfl rfl trivial (by decide)⟩
    · -- 57
      cases ho
      have h := get 56 _ rfl (by kernel_rfl)
      change V 56 = _ at h
      conv => whnf
      rw [h]
      conv => whnf
      refine (c54 4 _).val fun H3 s3 => ?_
      conv => whnf
      exact ⟨⟨_, rfl⟩, _, rfl, IOn_step hI hLi s3 rfl rfl trivial (by decide)⟩
    · -- 58
      cases ho
      conv => whnf
      have h53 := get 53 _ rfl (by kernel_rfl)
      change V 53 = _ at h53
      have h54 := get 54 _ rfl (by kernel_rfl)
      change V 54 = _ at h54
      have h55 := get 55 _ rfl (by kernel_rfl)
      change V 55 = _ at h55
      have h57 := get 57 _ rfl (by kernel_rfl)
      change V 57 = _ at h57
      rw [h53]
      conv => whnf
      rw [h54]
      conv => whnf
      rw [h55]
      conv => whnf
      rw [h57]
      conv => whnf
      intro b hb hO
      conv => whnf
      exact ⟨⟨_, rfl⟩, _, rfl, IOn_step hI hLi (sub_ins _ _ hb) rfl (quad_num (ins_same _ _ _)) (numN_new hI.2.1 hb rfl rfl) (by decide)⟩
    · -- 59
      cases ho
      have h := get 58 _ rfl (by kernel_rfl)
      conv => whnf
      refine (c143m _ (by decide) _ _ h).use fun u H3 s3 hq => ?_
      obtain ⟨_, hq⟩ := hq
      conv => whnf
      exact ⟨⟨_, rfl⟩, _, rfl, IOn_step hI hLi s3 rfl hq.mat (hq.base hI.2.1) (by decide)⟩
    · -- 60
      cases ho
      have h0 := hsee 0 (by kernel_rfl)
      have hs := hsee 59 (by kernel_rfl)
      obtain ⟨b, es, clk, hV0, hO, hF, _⟩ := hI.1.2.2.1 h0
      conv => whnf
      unfold enterK
      refine ⟨.i64, 10, b, ⟨es⟩, clk, rfl, hV0, hO, (hF 10 0).1 (keyVal_none (x := (10, 60, 59)) (by decide) hLi), ?_⟩
      conv => whnf
      exact ⟨⟨_, rfl⟩, _, rfl, IOn_ins (x := (10, 60, 59)) (by decide) hI hLi hs h0 hV0 hO rfl⟩
    · -- 61
      cases ho
      conv => whnf
      refine (c133m tSwap 4 (by decide) (by decide) _ (.func 145) #[] #[] (fun k hk => ⟨145, [], [], rfl, fun H4 _ => c145 k hk H4⟩)).use fun u H3 s3 hq => ?_
      obtain ⟨_, hq⟩ := hq
      conv => whnf
      exact ⟨⟨_, rfl⟩, _, rfl, IOn_step hI hLi s3 rfl hq.mat (hq.base hI.2.1) (by decide)⟩
    · -- 62
      cases ho
      have h0 := hsee 0 (by kernel_rfl)
      have hs := hsee 61 (by kernel_rfl)
      obtain ⟨b, es, clk, hV0, hO, hF, _⟩ := hI.1.2.2.1 h0
      conv => whnf
      unfold enterK
      refine ⟨.i64, 11, b, ⟨es⟩, clk, rfl, hV0, hO, (hF 11 0).1 (keyVal_none (x := (11, 62, 61)) (by decide) hLi), ?_⟩
      conv => whnf
      exact ⟨⟨_, rfl⟩, _, rfl, IOn_ins (x := (11, 62, 61)) (by decide) hI hLi hs h0 hV0 hO rfl⟩
    · -- 63
      cases ho
      conv => whnf
      refine (c133m tCCX 8 (by decide) (by decide) _ (.func 146) #[] #[] (fun k hk => ⟨146, [], [], rfl, fun H4 _ => c146 k hk H4⟩)).use fun u H3 s3 hq => ?_
      obtain ⟨_, hq⟩ := hq
      conv => whnf
      exact ⟨⟨_, rfl⟩, _, rfl, IOn_step hI hLi s3 rfl hq.mat (hq.base hI.2.1) (by decide)⟩
    · -- 64
      cases ho
      have h0 := hsee 0 (by kernel_rfl)
      have hs := hsee 63 (by kernel_rfl)
      obtain ⟨b, es, clk, hV0, hO, hF, _⟩ := hI.1.2.2.1 h0
      conv => whnf
      unfold enterK
      refine ⟨.i64, 12, b, ⟨es⟩, clk, rfl, hV0, hO, (hF 12 0).1 (keyVal_none (x := (12, 64, 63)) (by decide) hLi), ?_⟩
      conv => whnf
      exact ⟨⟨_, rfl⟩, _, rfl, IOn_ins (x := (12, 64, 63)) (by decide) hI hLi hs h0 hV0 hO rfl⟩
    · -- 65
      cases ho
      have h0 := hsee 0 (by kernel_rfl)
      conv => whnf
      exact ⟨⟨_, rfl⟩, _, rfl, IOn_same hI hLi h0 (.inl rfl) fun b h => h⟩
    · -- 66
      cases ho
      have h65 := hsee 65 (by kernel_rfl)
      have h0 : L 0 = true := by
        cases e : L 0 with
        | true => rfl
        | false => have := (hI.1.2.2.2 e).2.1; rw [h65] at this; cases this
      obtain ⟨b, es, clk, hV0, _, _, h5, _⟩ := hI.1.2.2.1 h0
      conv => whnf
      exact ⟨⟨_, rfl⟩, _, rfl, IOn_same hI hLi h0 (.inr rfl) fun b' h => (h5 h65).trans (hV0.symm.trans h)⟩
  · intro L V H' O' hI hL
    have hl : ∀ j, j < 67 → L j = true := fun j hj => hL j hj
    obtain ⟨b, es, clk, hV0, hO, hF, _, h66⟩ := hI.1.2.2.1 (hl 0 (by decide))
    conv => whnf
    refine ⟨b, es, clk, h66 (hl 66 (by decide)), hO, fun k k1 k2 => ?_, fun n hn => (hF n 0).1 ?_⟩
    · obtain rfl | rfl | rfl | rfl | rfl | rfl | rfl | rfl | rfl | rfl | rfl | rfl : k = 1 ∨ k = 2 ∨ k = 3 ∨ k = 4 ∨ k = 5 ∨ k = 6 ∨ k = 7 ∨ k = 8 ∨ k = 9 ∨ k = 10 ∨ k = 11 ∨ k = 12 := by omega
      · obtain ⟨j, hj⟩ := (hF 1 0).2 _ (keyVal_some (x := (1, 2, 1)) (by decide) (hl 2 (by decide)))
        exact ⟨j, _, hj, hI.2.2 1 _ rfl (hl 1 (by decide))⟩
      · obtain ⟨j, hj⟩ := (hF 2 0).2 _ (keyVal_some (x := (2, 12, 11)) (by decide) (hl 12 (by decide)))
        exact ⟨j, _, hj, hI.2.2 11 _ rfl (hl 11 (by decide))⟩
      · obtain ⟨j, hj⟩ := (hF 3 0).2 _ (keyVal_some (x := (3, 18, 17)) (by decide) (hl 18 (by decide)))
        exact ⟨j, _, hj, hI.2.2 17 _ rfl (hl 17 (by decide))⟩
      · obtain ⟨j, hj⟩ := (hF 4 0).2 _ (keyVal_some (x := (4, 26, 25)) (by decide) (hl 26 (by decide)))
        exact ⟨j, _, hj, hI.2.2 25 _ rfl (hl 25 (by decide))⟩
      · obtain ⟨j, hj⟩ := (hF 5 0).2 _ (keyVal_some (x := (5, 32, 31)) (by decide) (hl 32 (by decide)))
        exact ⟨j, _, hj, hI.2.2 31 _ rfl (hl 31 (by decide))⟩
      · obtain ⟨j, hj⟩ := (hF 6 0).2 _ (keyVal_some (x := (6, 38, 37)) (by decide) (hl 38 (by decide)))
        exact ⟨j, _, hj, hI.2.2 37 _ rfl (hl 37 (by decide))⟩
      · obtain ⟨j, hj⟩ := (hF 7 0).2 _ (keyVal_some (x := (7, 44, 43)) (by decide) (hl 44 (by decide)))
        exact ⟨j, _, hj, hI.2.2 43 _ rfl (hl 43 (by decide))⟩
      · obtain ⟨j, hj⟩ := (hF 8 0).2 _ (keyVal_some (x := (8, 50, 49)) (by decide) (hl 50 (by decide)))
        exact ⟨j, _, hj, hI.2.2 49 _ rfl (hl 49 (by decide))⟩
      · obtain ⟨j, hj⟩ := (hF 9 0).2 _ (keyVal_some (x := (9, 52, 51)) (by decide) (hl 52 (by decide)))
        exact ⟨j, _, hj, hI.2.2 51 _ rfl (hl 51 (by decide))⟩
      · obtain ⟨j, hj⟩ := (hF 10 0).2 _ (keyVal_some (x := (10, 60, 59)) (by decide) (hl 60 (by decide)))
        exact ⟨j, _, hj, hI.2.2 59 _ rfl (hl 59 (by decide))⟩
      · obtain ⟨j, hj⟩ := (hF 11 0).2 _ (keyVal_some (x := (11, 62, 61)) (by decide) (hl 62 (by decide)))
        exact ⟨j, _, hj, hI.2.2 61 _ rfl (hl 61 (by decide))⟩
      · obtain ⟨j, hj⟩ := (hF 12 0).2 _ (keyVal_some (x := (12, 64, 63)) (by decide) (hl 64 (by decide)))
        exact ⟨j, _, hj, hI.2.2 63 _ rfl (hl 63 (by decide))⟩
    · have h12 : ∀ x ∈ tabO, 1 ≤ x.1 ∧ x.1 ≤ 12 := by decide
      unfold keyVal
      rw [show (tabO.find? fun y => ((y.1 : Int) == n) && L y.2.1) = none from List.find?_eq_none.2 fun y hy h => ?_]
      · rfl
      · simp only [Bool.and_eq_true, beq_iff_eq] at h
        have := h12 y hy
        omega
/-- The operator of a kind, of the program. -/
theorem c21m (k : Int) (H : PH) : Cl Tryz.prog 21 [.int .i64 k] H emp fun r _ M' => OutO M' r (OfR k) := by
  by_cases hk : 1 ≤ k ∧ k ≤ 12
  · have e : OfR k = (opM k.toNat, 0) := if_pos hk
    rw [e]
    refine Cl.mine (Q := fun r u => r = .tuple #[u, .int .i64 0]) ?_
    obtain ⟨n, rfl⟩ := nat_of (a := k) (by omega)
    rw [Int.toNat_natCast]
    refine Cl_of (pol := polL) Γok Tryz.func21 (by kernel_rfl) rfl ?_
    conv => whnf
    refine (c75n _).use fun r H1 s1 hr => ?_
    obtain ⟨_, b, es, clk, rfl, hb, hkk, _⟩ := hr
    obtain ⟨j, u, hj, hu⟩ := hkk n (by omega) (by omega)
    conv => whnf
    unfold lookK
    refine ⟨.i64, n, rfl, .inr ⟨b, ⟨es⟩, clk, _, rfl, .inl hb, hj, ?_⟩⟩
    intro z
    conv => whnf
    exact ⟨u, rfl, hu⟩
  · have e : OfR k = ([], 3) := if_neg hk
    rw [e]
    refine Cl_of (pol := polL) Γok Tryz.func21 (by kernel_rfl) rfl ?_
    conv => whnf
    refine (c75n _).use fun r H1 s1 hr => ?_
    obtain ⟨_, b, es, clk, rfl, hb, _, hno⟩ := hr
    have hj := hno k (by omega)
    conv => whnf
    unfold lookK
    refine ⟨.i64, k, rfl, .inr ⟨b, ⟨es⟩, clk, _, rfl, .inl hb, hj, ?_⟩⟩
    intro z
    conv => whnf
    exact ⟨_, rfl, .inl ⟨rfl, rfl⟩⟩
end Go.Proofs.YtbbjhegapilhpaaGreat

namespace Go.Proofs.YtbbjhegapilhpaaGreat
open Go.Proofs.YtbbjhegapilhpaaGreat.X Go.Proofs.YtbbjhegapilhpaaGreat.X.PH
set_option maxRecDepth 100000

theorem idM_diag : ∀ n, n ≤ 6 → idM (2 ^ n) (2 ^ n) = diagR (fun _ => oneN) (2 ^ n) (2 ^ n) := by
  intro n hn
  obtain rfl | rfl | rfl | rfl | rfl | rfl | rfl : n = 0 ∨ n = 1 ∨ n = 2 ∨ n = 3 ∨ n = 4 ∨ n = 5 ∨ n = 6 := by omega
  all_goals kernel_rfl
theorem c20o (n : Int) (H : PH) : Cl Tryz.prog 20 [.int .i64 n] H emp fun r _ M' => OutO M' r (IdMR n) := by
  by_cases hn : n < 0 ∨ n > 6
  · have e : IdMR n = ([], 3) := if_pos hn
    rw [e]
    refine Cl_of (pol := polL) Γok Tryz.func20 (by kernel_rfl) rfl ?_
    conv => whnf
    refine if_intro (fun h => ?_) (fun h => ?_)
    · conv => whnf
      exact ⟨_, rfl, .inl ⟨rfl, rfl⟩⟩
    have h1 := of_decide_eq_false h
    conv => whnf
    refine if_intro (fun h => ?_) (fun h => ?_)
    · conv => whnf
      exact ⟨_, rfl, .inl ⟨rfl, rfl⟩⟩
    have h2 := of_decide_eq_false h
    omega
  · have e : IdMR n = (diagR (fun _ => oneN) (2 ^ n.toNat) (2 ^ n.toNat), 0) := if_neg hn
    rw [e]
    obtain ⟨n, rfl⟩ := nat_of (a := n) (by omega)
    rw [Int.toNat_natCast, ← idM_diag n (by omega)]
    exact c20m n (by omega) H
theorem c22o (m : Mx) (hlm : m.length < 1000000) (ws : List Int) (hws : ws.length < 100000) (n : Int) (H : PH) (u v : Value) (hu : MatH H u m) (hv : IntsH H v ws) :
    Cl Tryz.prog 22 [u, v, .int .i64 n] H emp fun r _ M' => OutO M' r (resM (onErr m ws n) (onAt m ws) (2 ^ n.toNat) (2 ^ n.toNat)) :=
  (c22 m hlm ws hws n H u v hu hv).mono fun r H' M' _ hr => by
    rcases hr with ⟨h, rfl⟩ | ⟨h, hm⟩
    · rw [resM_bad h]
      exact .bad
    · have hn : ¬ (decide (n < 0) || decide (n > 6)) = true := fun e => by
        unfold onErr at h
        by_cases q : checkMF m ≠ 0
        · rw [if_pos q] at h; exact q h
        · rw [if_neg q, if_pos e] at h; cases h
      have hn6 : n.toNat ≤ 6 := by
        simp at hn
        omega
      have p2 : 2 ^ n.toNat < 1000000 := by
        have : 2 ^ n.toNat ≤ 2 ^ 6 := Nat.pow_le_pow_right (by decide) hn6
        omega
      exact MadeE.out p2 p2 hm h
set_option maxHeartbeats 4000000 in
theorem c3 (kind size : Int) (m : Mx) (ws : List Int) (hlm : m.length < 9223372036854775808) (hlw : ws.length < 9223372036854775808) (H : PH) (u v : Value) (hu : MatH H u m) (hv : IntsH H v ws) :
    Cl Tryz.prog 3 [.int .i64 kind, .int .i64 size, u, v] H emp fun r _ _ => r = .bool true := by
  obtain ⟨base, cap, rfl⟩ := hu.sl
  obtain ⟨wb, wc, rfl, _⟩ := id hv
  refine Cl_of (pol := fun | 27 => .imm | 107 => .own | _ => .loc) Γok Tryz.func3 (by kernel_rfl) rfl ?_
  conv => whnf
  intro b hb _
  conv => whnf
  have s1 := sub_ins H (.cells ⟨[.slice base m.length cap]⟩ 22 (0, 0)) hb
  refine (c13 [m] (by simp) (by simp; omega) _ _ (one_mats (ins_same _ _ _) (hu.up s1))).val fun H1 s2 => ?_
  conv => whnf
  refine if_intro (fun hg => ?_) (fun hg => ?_)
  · conv => whnf
    refine (c14 _).val fun H2 s3 => ?_
    conv => whnf
  conv => whnf
  refine if_intro (fun h9 => ?_) (fun h9 => ?_)
  · conv => whnf
    refine (c14 _).val fun H2 s3 => ?_
    conv => whnf
  have h9 : ws.length ≤ 9 := by
    have := of_decide_eq_false h9
    omega
  have hle := big_le hg
  obtain ⟨hm8, hmr⟩ := hle m (by simp)
  have hu1 := (hu.up s1).up s2
  have hv1 := IntsH.up (IntsH.up hv s1) s2
  clear hu hv
  conv => whnf
  refine (c15' m _ _ hu1 (by omega) (fun r hr => by have := hmr r hr; omega)).use fun p H2 s3 hp => ?_
  obtain ⟨_, hp⟩ := hp
  replace hu1 := hu1.up s3
  replace hv1 := IntsH.up hv1 s3
  conv => whnf
  refine (c16' ws (by omega) _ _ hv1).use fun q H3 s4 hq => ?_
  obtain ⟨_, hq⟩ := hq
  replace hp := hp.up s4
  replace hu1 := hu1.up s4
  replace hv1 := IntsH.up hv1 s4
  conv => whnf
  refine (Cl.outH (x := IdMR size) (c17o size _)).use fun r H4 s5 hr => ?_
  obtain ⟨_, w1, rfl, hw1⟩ := hr
  conv => whnf
  refine (c18 kind _).use fun r H5 s6 hr => ?_
  obtain ⟨_, w2, rfl, hw2⟩ := hr
  conv => whnf
  refine (Cl.outH (c19 m (by omega) ws (by omega) size _ _ _ ((hu1.up s5).up s6) (IntsH.up (IntsH.up hv1 s5) s6))).use fun r H6 s7 hr => ?_
  obtain ⟨_, w3, rfl, hw3⟩ := hr
  have ss := s5.trans (s6.trans s7)
  replace hw1 := hw1.up (s6.trans s7)
  replace hw2 := hw2.up s7
  replace hp := hp.up ss
  replace hq := IntsH.up hq ss
  replace hu1 := hu1.up ss
  replace hv1 := IntsH.up hv1 ss
  conv => whnf
  have k1 : OwnL emp emp [] := Sub.refl _
  refine (k1.call (c20o size _)).mono fun r H8 O8 t1 hr => ?_
  obtain ⟨a1, rfl, k2⟩ := hr
  conv => whnf
  refine (k2.call (c21m kind _)).mono fun r H9 O9 t2 hr => ?_
  obtain ⟨a2, rfl, k3⟩ := hr
  conv => whnf
  refine (k3.call (c22o m (by omega) ws (by omega) size _ _ _ ((hp.up t1).up t2) (IntsH.up (IntsH.up hq t1) t2))).mono fun r H10 O10 t3 hr => ?_
  obtain ⟨a3, rfl, k5⟩ := hr
  have tt := t1.trans (t2.trans t3)
  clear k1 k2 k3
  replace hw1 := hw1.up tt
  replace hw2 := hw2.up tt
  replace hw3 := hw3.up tt
  replace hp := hp.up tt
  replace hq := IntsH.up hq tt
  replace hu1 := hu1.up tt
  replace hv1 := IntsH.up hv1 tt
  have c21k := fun H => c21m kind H
  generalize IdMR size = A1 at *
  generalize OfR kind = A2 at *
  generalize resM (onErr m ws size) (onAt m ws) (2 ^ size.toNat) (2 ^ size.toNat) = A3 at *
  replace k5 : OwnL emp O10 [(a1, A1.1), (a2, A2.1), (a3, A3.1)] := k5
  conv => whnf
  rw [bne_self_eq_false]
  conv => whnf
  rw [bne_self_eq_false]
  conv => whnf
  rw [bne_self_eq_false]
  conv => whnf
  refine (c23L k5 (by simp) hw1).mono fun r H12 O12 t5 hr => ?_
  obtain ⟨o1, rfl⟩ := hr
  replace k5 := k5.up o1
  conv => whnf
  refine (c23L k5 (by simp) (hw2.up t5)).mono fun r H13 O13 t6 hr => ?_
  obtain ⟨o2, rfl⟩ := hr
  replace k5 := k5.up o2
  conv => whnf
  refine (c23L k5 (by simp) ((hw3.up t5).up t6)).mono fun r H14 O14 t7 hr => ?_
  obtain ⟨o3, rfl⟩ := hr
  replace k5 := k5.up o3
  obtain ⟨y1, y2, y3, rfl⟩ := (k5.mem (u := a1) (x := A1.1) (by simp)).sl
  obtain ⟨z1, z2, z3, rfl⟩ := (k5.mem (u := a2) (x := A2.1) (by simp)).sl
  obtain ⟨v1, v2, v3, rfl⟩ := (k5.mem (u := a3) (x := A3.1) (by simp)).sl
  conv => whnf
  intro bs _ hbs
  replace k5 := k5.ins (o := .cells ⟨[.slice y1 y2 y3, .slice z1 z2 z3, .slice v1 v2 v3]⟩ 22 (0, 0)) hbs
  conv => whnf
  refine W_loop (pol := polL) Γok (Nat × PH × PH) (fun i => i.1 ≤ 3 ∧ Sub H14 i.2.1 ∧ OwnL (ins emp bs (.cells ⟨[.slice y1 y2 y3, .slice z1 z2 z3, .slice v1 v2 v3]⟩ 22 (0, 0))) i.2.2 (List.drop i.1 [(.slice y1 y2 y3, A1.1), (.slice z1 z2 z3, A2.1), (.slice v1 v2 v3, A3.1)])) (fun i => 3 - i.1) (fun i => [(109, .v (.int .i64 i.1))]) (fun _ => []) (fun i => i.2.1) (fun i => i.2.2) ⟨(0, H14, _), ⟨by simp, Sub.refl _, k5⟩, rfl, rfl, ?_⟩ ?_
  · conv => whnf
    repeat (refine ⟨rfl, ?_⟩; conv => whnf)
    exact trivial
  · rintro ⟨i, H16, O16⟩ ⟨h1, t9, k6⟩
    dsimp only at h1 t9 k6
    rcases (show i = 0 ∨ i = 1 ∨ i = 2 ∨ i = 3 by omega) with rfl | rfl | rfl | rfl
    · conv => whnf
      refine ⟨[.slice y1 y2 y3], ⟨rfl, rfl, _, _, _, .inr (k6.rem _ _ (ins_same _ _ _)), rfl⟩, ?_⟩
      conv => whnf
      refine (c24L k6).mono fun r H17 O17 t10 k7 => ?_
      conv => whnf
      refine ⟨(1, H17, O17), ⟨by dsimp only; omega, t9.trans t10, k7⟩, by dsimp only; omega, ?_⟩
      conv => whnf
      refine ⟨rfl, rfl, ?_⟩
      conv => whnf
      repeat (refine ⟨rfl, ?_⟩; conv => whnf)
      exact trivial
    · conv => whnf
      refine ⟨[.slice z1 z2 z3], ⟨rfl, rfl, _, _, _, .inr (k6.rem _ _ (ins_same _ _ _)), rfl⟩, ?_⟩
      conv => whnf
      refine (c24L k6).mono fun r H17 O17 t10 k7 => ?_
      conv => whnf
      refine ⟨(2, H17, O17), ⟨by dsimp only; omega, t9.trans t10, k7⟩, by dsimp only; omega, ?_⟩
      conv => whnf
      refine ⟨rfl, rfl, ?_⟩
      conv => whnf
      repeat (refine ⟨rfl, ?_⟩; conv => whnf)
      exact trivial
    · conv => whnf
      refine ⟨[.slice v1 v2 v3], ⟨rfl, rfl, _, _, _, .inr (k6.rem _ _ (ins_same _ _ _)), rfl⟩, ?_⟩
      conv => whnf
      refine (c24L k6).mono fun r H17 O17 t10 k7 => ?_
      conv => whnf
      refine ⟨(3, H17, O17), ⟨by dsimp only; omega, t9.trans t10, k7⟩, by dsimp only; omega, ?_⟩
      conv => whnf
      refine ⟨rfl, rfl, ?_⟩
      conv => whnf
      repeat (refine ⟨rfl, ?_⟩; conv => whnf)
      exact trivial
    conv => whnf
    have t := t5.trans (t6.trans (t7.trans t9))
    have hmr' : ∀ r ∈ m, r.length < 9223372036854775808 := fun r hr => by have := hmr r hr; omega
    have k8 : OwnL emp O16 [] := fun n o hn => by cases hn
    refine (k8.call (c21k _)).mono fun r H18 O18 t11 hr => ?_
    obtain ⟨a4, rfl, k9⟩ := hr
    conv => whnf
    rw [beq_self_eq_true]
    conv => whnf
    refine (c23L k9 (by simp) ((hw2.up t).up t11)).mono fun r H19 O19 t12 hr => ?_
    obtain ⟨o4, rfl⟩ := hr
    conv => whnf
    have t' := t.trans (t11.trans t12)
    refine (c23 m m _ _ _ (hp.up t') (hu1.up t') (by omega) hmr').val fun H20 t13 => ?_
    rw [eqM_refl]
    conv => whnf
    refine (c25 ws ws (by omega) _ _ _ (IntsH.up hq (t'.trans t13)) (IntsH.up hv1 (t'.trans t13))).val fun H21 t14 => ?_
    rw [decide_eq_true rfl]
    conv => whnf
    refine (c14 _).val fun H22 t15 => ?_
    conv => whnf
end Go.Proofs.YtbbjhegapilhpaaGreat
