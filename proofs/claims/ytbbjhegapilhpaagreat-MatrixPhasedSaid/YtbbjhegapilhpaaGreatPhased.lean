/- MatrixPhased answers true for every input, and nothing that is passed in is changed; no condition. -/
import Derived.Test.YtbbjhegapilhpaaGreatM6

set_option linter.unusedVariables false
set_option linter.unusedSimpArgs false
set_option linter.unnecessarySimpa false

namespace Go.Proofs.YtbbjhegapilhpaaGreat
open Go.Proofs.YtbbjhegapilhpaaGreat.X Go.Proofs.YtbbjhegapilhpaaGreat.X.PH
set_option maxRecDepth 100000

theorem c55 (n : Int) (H : PH) : Cl Tryz.prog 55 [.int .i64 n, .int .i64 8] H emp fun r _ _ => r = .int .i64 (n % 8) := by
  refine Cl_of (pol := polL) Γok Tryz.func55 (by kernel_rfl) rfl ?_
  conv => whnf
  rw [modI_eq]

/-! ### Rows of one's own, one by one -/
structure RowsS (M : PH) (us : List Value) (m : Mx) : Prop where
  len : us.length = m.length
  row : ∀ (i : Nat) (u : Value) (r : List (P4 × Int)), us[i]? = some u → m[i]? = some r → NumO M u r
  apart : ∀ (i j : Nat) (b n c n' c' : Nat), us[i]? = some (.slice (some ⟨b, 0, none⟩) n c) → us[j]? = some (.slice (some ⟨b, 0, none⟩) n' c') → i = j
theorem RowsS.keep {M M' : PH} {us : List Value} {m : Mx} (h : RowsS M us m) (hk : ∀ (n : Nat) cs, M n = some (.cells cs 28 (0, 0)) → M' n = some (.cells cs 28 (0, 0))) : RowsS M' us m :=
  ⟨h.len, fun i u r hu hr => OwnS.keep (h.row i u r hu hr) hk, h.apart⟩
theorem RowsS.snoc {M N : PH} {us : List Value} {m : Mx} {u : Value} {r : List (P4 × Int)} (h : RowsS M us m) (hd : Dis N M) (hu : NumO N u r) : RowsS (un N M) (us ++ [u]) (m ++ [r]) := by
  refine ⟨by simp [h.len], fun i u' r' hu' hr' => ?_, fun i j b n c n' c' hi hj => ?_⟩
  · rcases Nat.lt_trichotomy i m.length with hi | hi | hi
    · rw [List.getElem?_append_left (by rw [h.len]; exact hi)] at hu'
      rw [List.getElem?_append_left hi] at hr'
      exact OwnS.keep (h.row i u' r' hu' hr') fun n cs hn => un_right hd hn
    · subst hi
      rw [← h.len, List.getElem?_concat_length] at hu'
      rw [List.getElem?_concat_length] at hr'
      cases hu'
      cases hr'
      exact OwnS.keep hu fun n cs hn => un_l n _ hn
    · rw [List.getElem?_eq_none (by simp; omega)] at hr'
      cases hr'
  · have old : ∀ (i b n c : Nat), us[i]? = some (.slice (some ⟨b, 0, none⟩) n c) → M b ≠ none := by
      intro i b n c hi
      have hl := (List.getElem?_eq_some_iff.1 hi).1
      have hl' : i < m.length := by rw [← h.len]; exact hl
      rcases (h.row i _ _ hi (List.getElem?_eq_getElem hl')).2 with ⟨e, _⟩ | ⟨b', cap, spare, e, hO, _⟩
      · cases e
      · cases e; rw [hO]; simp
    have new : ∀ (b n c : Nat), u = .slice (some ⟨b, 0, none⟩) n c → N b ≠ none := by
      intro b n c e
      rcases hu.2 with ⟨e', _⟩ | ⟨b', cap, spare, e', hO, _⟩
      · rw [e] at e'; cases e'
      · rw [e] at e'; cases e'; rw [hO]; simp
    have pos : ∀ (i : Nat) (v : Value), (us ++ [u])[i]? = some v → (i < us.length ∧ us[i]? = some v) ∨ (i = us.length ∧ u = v) := by
      intro i v hv
      rcases Nat.lt_trichotomy i us.length with hl | hl | hl
      · rw [List.getElem?_append_left hl] at hv
        exact .inl ⟨hl, hv⟩
      · subst hl
        rw [List.getElem?_concat_length] at hv
        cases hv
        exact .inr ⟨rfl, rfl⟩
      · rw [List.getElem?_eq_none (by simp; omega)] at hv
        cases hv
    rcases pos _ _ hi with ⟨l1, e1⟩ | ⟨l1, e1⟩ <;> rcases pos _ _ hj with ⟨l2, e2⟩ | ⟨l2, e2⟩
    · exact h.apart i j b n c n' c' e1 e2
    · exact absurd ((hd b).resolve_left (new _ _ _ e2)) (old _ _ _ _ e1)
    · exact absurd ((hd b).resolve_left (new _ _ _ e1)) (old _ _ _ _ e2)
    · omega
theorem un_t {M N : PH} (hd : Dis N M) {n : Nat} {o : Obj} (h : M n = some o) : un N M n = some o := un_right hd h
set_option maxHeartbeats 1000000 in
theorem c15o (m : Mx) (H : PH) (v : Value) (hv : MatH H v m) (hlen : m.length ≤ 100000) (hrow : ∀ r ∈ m, r.length ≤ 100000) :
    Cl Tryz.prog 15 [v] H emp fun r H' M' => ∃ us, OwnS M' 1 50 r (us.map fun u => [u]) ∧ RowsS M' us m := by
  obtain ⟨base, cap, rfl⟩ := hv.sl
  refine Cl_of (pol := fun | 15 => .imm | _ => .loc) Γok Tryz.func15 (by kernel_rfl) rfl ?_
  conv => whnf
  refine W_loop (pol := fun | 15 => .imm | _ => .loc) Γok (Nat × PH × Value × PH) (fun i => i.1 ≤ m.length ∧ Sub H i.2.1 ∧ ∃ us, OwnS i.2.2.2 1 50 i.2.2.1 (us.map fun u => [u]) ∧ RowsS i.2.2.2 us (m.take i.1)) (fun i => m.length - i.1) (fun i => [(8, .v (.int .i64 i.1)), (3, .v i.2.2.1)]) (fun _ => []) (fun i => i.2.1) (fun i => i.2.2.2) ⟨(0, H, .slice none 0 0, emp), ⟨by simp, Sub.refl _, [], ?_, ?_⟩, rfl, rfl, ?_⟩ ?_
  · exact ⟨by simp, .inl ⟨rfl, by simp⟩⟩
  · exact ⟨by simp, by simp, by simp⟩
  · conv => whnf
    repeat (refine ⟨rfl, ?_⟩; conv => whnf)
    exact trivial
  · rintro ⟨i, H', out, O'⟩ ⟨h1, h2, us, h3, h4⟩
    dsimp only at h1 h2 h3 h4
    conv => whnf
    refine if_intro (fun h => ?_) (fun h => ?_)
    · have hi : i < m.length := by simpa using h
      obtain ⟨b, off, base', cap', rfl, hrd, hn⟩ := (hv.up h2).at hi
      conv => whnf
      refine dec_intro (by simpa using hi) ?_
      conv => whnf
      refine ⟨_, hrd _ _ (Sub.refl _), ?_⟩
      conv => whnf
      refine (c43 m[i] _ _ hn (hrow _ (List.getElem_mem hi))).pure.mono fun r H2 O2 hs hr => ?_
      obtain ⟨N, hp, hr⟩ := hr
      have hd := hp.dis
      have h3' : OwnS O2 1 50 out (us.map fun u => [u]) := OwnS.keep h3 fun n cs hn => hp.right _ _ hn
      have h4' : RowsS O2 (us ++ [r]) (m.take i ++ [m[i]]) := by
        rw [show O2 = un N O' from funext hp.all]
        exact h4.snoc hd hr
      obtain ⟨rb, rn, rc, rfl⟩ := OwnS.sl hr
      conv => whnf
      intro b2 hb2 hO2
      conv => whnf
      refine append_one' (xs := us.map fun u => [u]) (y := [.slice rb rn rc]) h3' rfl rfl (by intro v hv; simp at hv; subst hv; rfl) ⟨_, _, _, rfl, rfl, Rd.whole (ins_same _ _ _)⟩ ?_ fun v O3 hO3 hkeep => ?_
      · have := h4.len
        simp at this ⊢
        omega
      conv => whnf
      have hs2 := sub_ins H2 (.cells ⟨[.slice rb rn rc]⟩ 50 (0, 0)) hb2
      refine ⟨(i + 1, ins H2 b2 (.cells ⟨[.slice rb rn rc]⟩ 50 (0, 0)), v, O3), ⟨hi, (h2.trans hs).trans hs2, us ++ [.slice rb rn rc], ?_, ?_⟩, by dsimp only; omega, ?_⟩
      · show OwnS O3 1 50 v _
        rw [List.map_append]
        exact hO3
      · dsimp only
        rw [List.take_succ_eq_append_getElem hi]
        exact h4'.keep fun n cs hn => hkeep n _ hn fun cap => OwnS.not_at h3' hn (by decide) _ _
      · conv => whnf
        refine ⟨rfl, rfl, ?_⟩
        conv => whnf
        repeat (refine ⟨rfl, ?_⟩; conv => whnf)
        refine ⟨by show En.v (.int .i64 (IntKind.i64.wrap (i + 1))) = _; rw [wrap_id (by omega) (by omega)]; rfl, ?_⟩
        conv => whnf
        repeat (refine ⟨rfl, ?_⟩; conv => whnf)
        exact trivial
    · have hi : m.length ≤ i := by simpa using h
      conv => whnf
      rw [List.take_of_length_le hi] at h4
      exact ⟨us, h3, h4⟩
/-- They may be read. -/
theorem RowsS.share {H M : PH} (hd : Dis H M) {v : Value} {us : List Value} {m : Mx} (h : OwnS M 1 50 v (us.map fun u => [u])) (hr : RowsS M us m) : MatH (un H M) v m := by
  refine ⟨us, hr.len, ?_, fun i r u hr' hu => NumO.share (hr.row i u r hu hr') hd⟩
  have hl := hr.len
  rcases h.2 with ⟨rfl, h0⟩ | ⟨b, cap, spare, rfl, hO, hcap, hsp⟩
  · have : us = [] := by simpa using h0
    subst this
    exact ⟨none, 0, by rw [← hl]; rfl, .inl ⟨hl.symm, rfl⟩⟩
  · refine ⟨some ⟨b, 0, none⟩, cap, by simp [hl], .inr ⟨b, 0, _, _, _, rfl, un_right hd hO, ?_⟩⟩
    have : ∀ us : List Value, (us.map fun u => [u]).flatten = us := by
      intro us
      induction us with
      | nil => rfl
      | cons u us ih => simp only [List.map_cons, List.flatten_cons, ih]; rfl
    rw [this us]
    simp
end Go.Proofs.YtbbjhegapilhpaaGreat

namespace Go.Proofs.YtbbjhegapilhpaaGreat
open Go.Proofs.YtbbjhegapilhpaaGreat.X Go.Proofs.YtbbjhegapilhpaaGreat.X.PH
set_option maxRecDepth 100000

theorem OwnS.at1 {H O : PH} {base : Option Addr} {n cap : Nat} {us : List Value} (h : OwnS O 1 50 (.slice base n cap) (us.map fun u => [u])) {i : Nat} (hi : i < us.length) :
    n = us.length ∧ ∃ b, base = some ⟨b, 0, none⟩ ∧ (∃ cs, O b = some (.cells ⟨cs⟩ 50 (0, 0))) ∧ Rd H O ⟨b, 0 + i * 1, none⟩ 1 [us[i]] := by
  rcases h.2 with ⟨e, h0⟩ | ⟨b, cap', spare, e, hO, hcap, hsp⟩
  · have : us = [] := by simpa using h0
    subst this
    simp at hi
  · cases e
    have hfl : ∀ us : List Value, (us.map fun u => [u]).flatten = us := by
      intro us
      induction us with
      | nil => rfl
      | cons u us ih => simp only [List.map_cons, List.flatten_cons, ih]; rfl
    rw [hfl] at hO
    refine ⟨by simp, b, rfl, ⟨_, hO⟩, rfl, rfl, _, _, _, .inr hO, ?_⟩
    rw [Nat.zero_add, Nat.mul_one]
    show List.take 1 (List.drop i (us ++ spare)) = _
    rw [List.drop_append_of_le_length (by omega), List.drop_eq_getElem_cons hi]
    rfl
/-- The first number of a row gets another A. -/
def pokeL (a : Int) : List (P4 × Int) → List (P4 × Int)
  | [] => []
  | x :: l => ((⟨a, x.1.b, x.1.c, x.1.d⟩ : P4), x.2) :: l
def pokeM (m : Mx) (i : Nat) (a : Int) : Mx := m.set i (pokeL a (m.getD i []))
theorem RowsS.poke {O : PH} {us : List Value} {m : Mx} (h : RowsS O us m) {i : Nat} (hi : i < m.length) (h0 : 0 < m[i].length) :
    ∃ b c cs, us[i]? = some (.slice (some ⟨b, 0, none⟩) m[i].length c) ∧ O b = some (.cells ⟨cs⟩ 28 (0, 0)) ∧ (∀ H, Rd H O ⟨b, 0 + 0 * 5 + 0, none⟩ 1 [.int .i64 (m[i][0]).1.a]) ∧ 1 ≤ cs.length ∧
      ∀ a, RowsS (ins O b (.cells ⟨cs.take (0 + 0 * 5 + 0) ++ [.int .i64 a] ++ cs.drop (0 + 0 * 5 + 0 + 1)⟩ 28 (0, 0))) us (pokeM m i a) := by
  have hu : i < us.length := by rw [h.len]; exact hi
  have hr := h.row i us[i] m[i] (List.getElem?_eq_getElem hu) (List.getElem?_eq_getElem hi)
  obtain ⟨x, l, hxl⟩ : ∃ x l, m[i] = x :: l := by
    cases e : m[i] with
    | nil => rw [e] at h0; simp at h0
    | cons x l => exact ⟨x, l, rfl⟩
  rcases hr.2 with ⟨_, e⟩ | ⟨b, cap, spare, e, hO, hcap, hsp⟩
  · have : m[i] = [] := by simpa using e
    rw [this] at h0
    simp at h0
  have hx0 : m[i][0] = x := by simp [hxl]
  have hcs : ((m[i].map cellsOf).flatten ++ spare) = cellsOf x ++ ((l.map cellsOf).flatten ++ spare) := by rw [hxl]; simp
  refine ⟨b, cap, _, ?_, hO, fun H => ⟨rfl, rfl, _, _, _, .inr hO, ?_⟩, ?_, fun a => ⟨?_, fun j u r hu' hr' => ?_, h.apart⟩⟩
  · rw [List.getElem?_eq_getElem hu, e]
    simp
  · dsimp only
    rw [hcs, hx0]
    rfl
  · rw [hcs]
    simp [cellsOf]
  · unfold pokeM
    rw [List.length_set]
    exact h.len
  · unfold pokeM at hr'
    by_cases ej : j = i
    · subst ej
      rw [List.getElem?_set_self hi] at hr'
      cases hr'
      rw [List.getElem?_eq_getElem hu] at hu'
      cases hu'
      have hp : pokeL a (m.getD j []) = ((⟨a, x.1.b, x.1.c, x.1.d⟩ : P4), x.2) :: l := by
        rw [show m.getD j [] = m[j] by simp [List.getD_eq_getElem?_getD, hi], hxl]
        rfl
      rw [hp]
      refine ⟨fun y hy => ?_, .inr ⟨b, cap, spare, ?_, ?_, ?_, ?_⟩⟩
      · obtain ⟨z, _, rfl⟩ := List.mem_map.1 hy
        rfl
      · rw [e, hxl]; simp
      · rw [ins_same, hcs]
        simp [cellsOf]
      · rw [hxl] at hcap; simpa using hcap
      · rw [hxl] at hsp; simpa using hsp
    · rw [List.getElem?_set_ne (Ne.symm ej)] at hr'
      obtain ⟨q1, q2⟩ := h.row j u r hu' hr'
      refine ⟨q1, q2.imp id ?_⟩
      rintro ⟨b', cap', sp', e', hO', q3, q4⟩
      refine ⟨b', cap', sp', e', (ins_ne _ _ fun eb => ej ?_).trans hO', q3, q4⟩
      subst eb
      exact h.apart j i b' _ _ _ _ (hu'.trans (congrArg some e')) ((List.getElem?_eq_getElem hu).trans (congrArg some e))
/-! ### what a matrix of small numbers is -/
theorem small_ok {z r : Int} {m : Mx} {h w : Nat} (hs : Small z r m h w) (h1 : 0 < h) (h2 : h ≤ 64) (w1 : 0 < w) (w2 : w ≤ 64) (hz : z ≤ 1073741824) (hr : r ≤ 60) : Right m ∧ wideM m = w ∧ checkMF m = 0 ∧ ∀ i k, i < h → k < w → NumB z r (entry m i k) := by
  obtain ⟨r1, r2⟩ := small_right hs h1 h2 w1 w2
  have he : ∀ i k, i < h → k < w → NumB z r (entry m i k) := by
    intro i k hi hk
    have hi' : i < m.length := by rw [hs.1]; exact hi
    have hx := hs.2 _ (List.getElem_mem hi')
    have hk' : k < m[i].length := by rw [hx.1]; exact hk
    rw [entry_get hi' hk']
    exact hx.2 _ (List.getElem_mem hk')
  refine ⟨r1, r2, check_grid r1 fun i k hi hk => ?_, he⟩
  have := he i k (by rw [← hs.1]; exact hi) (by rw [← r2]; exact hk)
  exact in_right this.k0 (by have := this.k1; omega) (within_mono this.co hz)
theorem poke_small {m : Mx} {h w i : Nat} {a : Int} (hs : Small 5 3 m h w) (ha : -6 ≤ a ∧ a ≤ 6) : Small 6 3 (pokeM m i a) h w := by
  refine ⟨by unfold pokeM; rw [List.length_set]; exact hs.1, fun r hr => ?_⟩
  have up : ∀ r ∈ m, r.length = w ∧ ∀ y ∈ r, NumB 6 3 y := fun r hr => ⟨(hs.2 r hr).1, fun y hy => ⟨within_mono ((hs.2 r hr).2 y hy).co (by decide), ((hs.2 r hr).2 y hy).k0, ((hs.2 r hr).2 y hy).k1⟩⟩
  unfold pokeM at hr
  rcases List.mem_or_eq_of_mem_set hr with hr | hr
  · exact up r hr
  · subst hr
    by_cases hi : i < m.length
    · have e : m.getD i [] = m[i] := by simp [List.getD_eq_getElem?_getD, hi]
      rw [e]
      have hu := up _ (List.getElem_mem hi)
      cases hm : m[i] with
      | nil => rw [hm] at hu; exact ⟨hu.1, fun y hy => by simp [pokeL] at hy⟩
      | cons x l =>
        rw [hm] at hu
        refine ⟨hu.1, fun y hy => ?_⟩
        rcases List.mem_cons.1 hy with rfl | hy
        · have hx := hu.2 x (by simp)
          have hc := hx.co
          unfold P4.within at hc
          exact ⟨⟨ha, hc.2⟩, hx.k0, hx.k1⟩
        · exact hu.2 y (by simp [hy])
    · rw [List.set_eq_of_length_le (by omega)] at hr
      exact up _ hr
/-! ### powers of w -/
theorem omega_LV (n : Int) : LV 0 1 (OmegaF n) := by
  unfold OmegaF
  have hk : (n % 8).toNat < 8 := by omega
  generalize (n % 8).toNat = k at hk
  rcases (show k = 0 ∨ k = 1 ∨ k = 2 ∨ k = 3 ∨ k = 4 ∨ k = 5 ∨ k = 6 ∨ k = 7 by omega) with rfl | rfl | rfl | rfl | rfl | rfl | rfl | rfl <;> exact ⟨by decide, by decide, by unfold P4.within; decide⟩
theorem Mul_comm {x y : P4 × Int} (hx : checkF x.1 x.2 = 0) (hy : checkF y.1 y.2 = 0) : MulF x y = MulF y x := by
  rw [Mul_eq, Mul_eq, (Mul_fits hx hy).1, (Mul_fits hy hx).1, pz_comm, Int.add_comm]
/-- A matrix of small numbers times a power of w. -/
theorem scale_omega {x : Mx} {h w : Nat} (hx : MV 3 20 x h w) (n : Int) : ∃ y, ScaleMF x (OmegaF n) = (y, 0) ∧ MV 3 80 y h w ∧ ML y ∧ ∀ i k, i < h → k < w → entry y i k = (MulF (OmegaF n) (entry x i k)).1 := by
  have rm := hx.right
  have e1 := hx.len
  have e2 := hx.wid
  have ho := omega_LV n
  have key : ∀ i k, i < h → k < w → (scaleAt x (OmegaF n) i k).2 = 0 ∧ IsL (scaleAt x (OmegaF n) i k).1 ∧ LV 3 80 (scaleAt x (OmegaF n) i k).1 := by
    intro i k hi hk
    unfold scaleAt
    rw [Mul_eq]
    obtain ⟨m1, m2, m3, m4⟩ := Mul_lv (hx.el i k hi hk) ho (by decide) (by decide)
    exact ⟨m1, m2, m3⟩
  obtain ⟨y, p1, p2, p3, p4⟩ := grid_lv (F := scaleAt x (OmegaF n)) (N := 3) (A := 80) (e := 0) (by rw [← e1]; exact rm.pos) (by rw [← e1]; exact rm.le) (by rw [← e2]; exact rm.wpos) (by rw [← e2]; exact rm.wle) rfl key
  refine ⟨y, ?_, p2, p3, fun i k hi hk => ?_⟩
  · unfold ScaleMF
    rw [hx.check, if_neg (by simp), ho.ok, e1, e2]
    exact p1
  · rw [p4 i k hi hk]
    unfold scaleAt
    rw [Mul_comm (hx.el i k hi hk).ok ho.ok]
theorem alike_of {m n : Mx} {h w : Nat} (a : m.length = h) (b : wideM m = w) (c : n.length = h) (d : wideM n = w) : alikeF m n = true := by
  unfold alikeF
  rw [a, b, c, d]
  simp
theorem errs_of {m n : Mx} (a : checkMF m = 0) (b : checkMF n = 0) : errsM [m, n] = 0 := by
  unfold errsM
  simp [firstErr, a, b]
theorem omega_mod (n : Int) : OmegaF (((n % 8).toNat : Nat) : Int) = OmegaF n := by
  unfold OmegaF
  congr 2
  omega
/-- A matrix that differs by a power of w: which one is found, and the other one times it. -/
theorem phase_found {u x : Mx} {h w : Nat} (hu : checkMF u = 0) (ru : Right u) (ul : u.length = h) (uw : wideM u = w) (hx : MV 3 20 x h w) :
    (∃ k : Nat, k < 8 ∧ PhaseF u x = (((k : Nat) : Int), 0) ∧ allPh u x k = true ∧ ∀ j, allPh u x j = true → k ≤ j) ∨ (PhaseF u x = (0, 6) ∧ ∀ j, j < 8 → allPh u x j = false) := by
  unfold PhaseF
  rw [errs_of hu hx.check, if_neg (by simp), alike_of ul uw hx.len hx.wid, if_neg (by simp)]
  cases hf : (List.range 8).find? (allPh u x) with
  | none =>
    refine .inr ⟨rfl, fun j hj => ?_⟩
    have := List.find?_eq_none.1 hf j (List.mem_range.2 hj)
    simpa using this
  | some k =>
    have hk := List.mem_range.1 (List.mem_of_find?_eq_some hf)
    have hp := List.find?_some hf
    refine .inl ⟨k, hk, rfl, hp, fun j hj => ?_⟩
    rcases Nat.lt_or_ge j k with hlt | hge
    · rw [List.find?_range_eq_some] at hf
      have := hf.2.2 j hlt
      rw [hj] at this
      cases this
    · exact hge
theorem phased_same {u x z : Mx} {h w k : Nat} (hu : checkMF u = 0) (ul : u.length = h) (uw : wideM u = w) (h0 : 0 < h) (hx : MV 3 20 x h w) (hz : MV 3 80 z h w) (lz : ML z) (hent : ∀ i q, i < h → q < w → entry z i q = (MulF (OmegaF k) (entry x i q)).1) (ha : allPh u x k = true) : sameF u z = true ∧ sameF z u = true := by
  have w0 : 0 < w := by rw [← hx.wid]; exact hx.right.wpos
  have key : ∀ t, t < h * w → (LeastF (entry u (t / w) (t % w)).1 (entry u (t / w) (t % w)).2).1 = entry z (t / w) (t % w) ∧ (LeastF (entry z (t / w) (t % w)).1 (entry z (t / w) (t % w)).2).1 = entry z (t / w) (t % w) := by
    intro t ht
    have t1 : t / w < h := Nat.div_lt_of_lt_mul (by rw [Nat.mul_comm]; exact ht)
    have t2 : t % w < w := Nat.mod_lt _ w0
    unfold allPh at ha
    rw [ul, uw] at ha
    have := List.all_eq_true.1 ha t (List.mem_range.2 ht)
    unfold samePh at this
    rw [uw] at this
    refine ⟨by rw [eqN_iff.1 this, hent _ _ t1 t2], ?_⟩
    have hL := lz (t / w) (t % w) (by rw [hz.len]; exact t1) (by rw [hz.wid]; exact t2)
    rw [hL.least]
  constructor
  · unfold sameF
    rw [alike_of ul uw hz.len hz.wid, Bool.true_and, ul, uw]
    refine List.all_eq_true.2 fun t ht => ?_
    unfold samePl
    rw [uw]
    obtain ⟨k1, k2⟩ := key t (List.mem_range.1 ht)
    rw [k1, k2]
    exact eqN_iff.2 rfl
  · unfold sameF
    rw [alike_of hz.len hz.wid ul uw, Bool.true_and, hz.len, hz.wid]
    refine List.all_eq_true.2 fun t ht => ?_
    unfold samePl
    rw [hz.wid]
    obtain ⟨k1, k2⟩ := key t (List.mem_range.1 ht)
    rw [k1, k2]
    exact eqN_iff.2 rfl
/-- The first part of the law. -/
theorem phased_one {x y : Mx} {h w : Nat} (hx : MV 3 20 x h w) (n : Int) (h0 : 0 < h) (hy : ScaleMF x (OmegaF n) = (y, 0)) :
    ∃ (k : Nat) (z : Mx), k < 8 ∧ (k : Int) ≤ n % 8 ∧ PhaseF y x = (((k : Nat) : Int), 0) ∧ ScaleMF x (OmegaF k) = (z, 0) ∧ errsM [z, y] = 0 ∧ sameF z y = true := by
  obtain ⟨y', p1, p2, p3, p4⟩ := scale_omega hx n
  rw [hy] at p1
  cases p1
  have hall : allPh y x (n % 8).toNat = true := by
    have w0 : 0 < w := by rw [← hx.wid]; exact hx.right.wpos
    unfold allPh
    refine List.all_eq_true.2 fun t ht => ?_
    rw [p2.len, p2.wid] at ht
    have ht := List.mem_range.1 ht
    have t1 : t / w < h := Nat.div_lt_of_lt_mul (by rw [Nat.mul_comm]; exact ht)
    have t2 : t % w < w := Nat.mod_lt _ w0
    unfold samePh
    rw [p2.wid, (p3 _ _ (by rw [p2.len]; exact t1) (by rw [p2.wid]; exact t2)).least, p4 _ _ t1 t2, omega_mod]
    exact eqN_iff.2 rfl
  rcases phase_found p2.check p2.right p2.len p2.wid hx with ⟨k, hk, h1, h2, h3⟩ | ⟨_, h2⟩
  · have hle := h3 _ hall
    obtain ⟨z, z1, z2, z3, z4⟩ := scale_omega hx (k : Int)
    refine ⟨k, z, hk, by omega, h1, z1, errs_of z2.check p2.check, ?_⟩
    exact (phased_same p2.check p2.len p2.wid h0 hx z2 z3 z4 h2).2
  · have := h2 (n % 8).toNat (by omega)
    rw [hall] at this
    cases this
theorem phased_two {u x : Mx} {h w : Nat} (hx : MV 3 20 x h w) (hu : Small 6 3 u h w) (h0 : 0 < h) (h64 : h ≤ 64) (w0 : 0 < w) (w64 : w ≤ 64) :
    (∃ (k : Nat) (z : Mx), k < 8 ∧ PhaseF u x = (((k : Nat) : Int), 0) ∧ ScaleMF x (OmegaF ((k : Nat) : Int)) = (z, 0) ∧ errsM [u, z] = 0 ∧ sameF u z = true ∧ MV 3 80 z h w) ∨ PhaseF u x = (0, 6) := by
  obtain ⟨r1, r2, r3, _⟩ := small_ok hu h0 h64 w0 w64 (by decide) (by decide)
  rcases phase_found r3 r1 hu.1 r2 hx with ⟨k, hk, h1, h2, h3⟩ | ⟨h1, _⟩
  · obtain ⟨z, z1, z2, z3, z4⟩ := scale_omega hx (k : Int)
    exact .inl ⟨k, z, hk, h1, z1, errs_of r3 z2.check, (phased_same r3 hu.1 r2 h0 hx z2 z3 z4 h2).1, z2⟩
  · exact .inr h1
end Go.Proofs.YtbbjhegapilhpaaGreat

namespace Go.Proofs.YtbbjhegapilhpaaGreat
open Go.Proofs.YtbbjhegapilhpaaGreat.X Go.Proofs.YtbbjhegapilhpaaGreat.X.PH
set_option maxRecDepth 100000

set_option maxHeartbeats 4000000 in
theorem c9 (pw : Int) (l : List Int) (base : Option Addr) (cap : Nat) (hcap : l.length ≤ cap) (hlen : l.length < 9223372036854775808) (H : PH) (hv : BytesH H (.slice base l.length cap) l) : Cl Tryz.prog 9 [.slice base l.length cap, .int .i64 pw] H emp fun r _ _ => r = .bool true := by
  refine Cl_of (pol := polL) Γok Tryz.func9 (by kernel_rfl) rfl ?_
  conv => whnf
  refine (c49 l base cap hcap hlen _ hv).mono fun r H1 O1 s1 hr => ?_
  obtain ⟨bk, rfl, st⟩ := hr
  conv => whnf
  refine (c50 1 3 (by decide) (by decide) (by decide) (0) bk (by omega) _ _ st).mono fun r H2 O2 s2 hr => ?_
  obtain ⟨a, rfl, ha, _, st⟩ := hr
  obtain ⟨a, rfl⟩ := nat_of (a := a) (by omega)
  conv => whnf
  refine (c50 1 3 (by decide) (by decide) (by decide) (0 + 1) bk (by omega) _ _ st).mono fun r H3 O3 s3 hr => ?_
  obtain ⟨b, rfl, hb, _, st⟩ := hr
  obtain ⟨b, rfl⟩ := nat_of (a := b) (by omega)
  conv => whnf
  refine (c51' a b (by omega) (by omega) (0 + 1 + 1) bk (by omega) _ _ st).mono fun r H4 O4 s4 hr => ?_
  obtain ⟨x, hx, sx, st⟩ := hr
  have mx := small_MV sx (by omega) (by omega) (by omega) (by omega)
  conv => whnf
  obtain ⟨y, e1, my, _, _⟩ := scale_omega mx pw
  obtain ⟨k, z, k8, kle, e2, e3, e4, e5⟩ := phased_one mx pw (by omega) e1
  obtain ⟨z2, e3b, mz, _, _⟩ := scale_omega mx (k : Int)
  rw [e3] at e3b
  cases e3b
  refine (c54 pw _).val fun H5 s5 => ?_
  replace hx := hx.up s5
  replace st := st.up s5
  conv => whnf
  have hc6 := Cl.outH (c42 x (OmegaF pw) mx.lens.1 _ _ hx)
  rw [e1] at hc6
  refine hc6.use fun r H6 s6 hr => ?_
  obtain ⟨_, vy, rfl, hy⟩ := hr
  clear hc6
  obtain ⟨sb6, sc6, rfl⟩ := MatH.sl hy
  replace hx := hx.up s6
  replace st := st.up s6
  conv => whnf
  have hc7 := c34 y x my.lens.1 mx.lens.1 _ _ _ hy hx
  rw [e2] at hc7
  refine hc7.val fun H7 s7 => ?_
  clear hc7
  replace hx := hx.up s7
  replace st := st.up s7
  replace hy := hy.up s7
  conv => whnf
  refine (c54 (k : Int) _).val fun H8 s8 => ?_
  replace hx := hx.up s8
  replace st := st.up s8
  replace hy := hy.up s8
  conv => whnf
  have hc9 := Cl.outH (c42 x (OmegaF (k : Int)) mx.lens.1 _ _ hx)
  rw [e3] at hc9
  refine hc9.use fun r H9 s9 hr => ?_
  obtain ⟨_, vz, rfl, hz⟩ := hr
  clear hc9
  obtain ⟨sb9, sc9, rfl⟩ := MatH.sl hz
  replace hx := hx.up s9
  replace st := st.up s9
  replace hy := hy.up s9
  conv => whnf
  have hsame := e5
  have hc10 := c33 z y mz.lens.1 my.lens.1 _ _ _ hz hy
  rw [e4, if_pos rfl, e5] at hc10
  refine hc10.val fun H10 s10 => ?_
  clear hc10
  replace hx := hx.up s10
  replace st := st.up s10
  replace hy := hy.up s10
  replace hz := hz.up s10
  conv => whnf
  rw [show decide ((k : Int) < 0) = false by simp]
  conv => whnf
  refine (c55 pw _).val fun H11 s11 => ?_
  replace hx := hx.up s11
  replace st := st.up s11
  replace hy := hy.up s11
  replace hz := hz.up s11
  conv => whnf
  rw [show decide ((k : Int) > pw % 8) = false by simp; omega]
  conv => whnf
  refine (c15o x _ _ hx (by have := sx.1; omega) (fun r hr => by have := (sx.2 r hr).1; omega)).pure.mono fun u H90 O90 s90 hu => ?_
  obtain ⟨M90, hp, us, ho, hr⟩ := hu
  replace ho : OwnS O90 1 50 u (us.map fun u => [u]) := OwnS.keep ho fun n cs hn => hp.left _ _ hn
  replace hr : RowsS O90 us x := hr.keep fun n cs hn => hp.left _ _ hn
  replace st := (st.up s90).keep (O' := O90) fun c hn => hp.right _ _ hn
  replace hx := hx.up s90
  have hul : us.length = a := by rw [hr.len]; exact sx.1
  obtain ⟨ub, un, uc, rfl⟩ := OwnS.sl ho
  obtain ⟨hun, u0, rfl, ⟨ucs, hu0⟩, _⟩ := OwnS.at1 (H := H90) ho (show 0 < us.length by omega)
  subst hun
  conv => whnf
  refine (c56 (us.length : Int) _ bk (by omega) _ _ st).mono fun r H91 O91 s91 hq => ?_
  obtain ⟨i, rfl, hi, _, hpp⟩ := hq
  have hi := hi (by omega)
  obtain ⟨i, rfl⟩ := nat_of (a := i) hi.1
  have hi : i < us.length := by omega
  have hi' : i < x.length := by rw [← hr.len]; exact hi
  replace ho := StP.owns st hpp (by decide) ho
  replace hr : RowsS O91 us x := hr.keep fun n cs hn => (hpp.other (st.ne hn (by decide))).trans hn
  replace hx := hx.up s91
  have hxr := sx.2 _ (List.getElem_mem hi')
  have h0 : 0 < x[i].length := by rw [hxr.1]; omega
  obtain ⟨_, u0', hu0', ⟨ucs', hu0b⟩, hrd⟩ := OwnS.at1 (H := H91) ho hi
  cases hu0'
  obtain ⟨rb, rc, cs, g1, g2, g3, g4, g5⟩ := hr.poke hi' h0
  have hui : us[i] = .slice (some ⟨rb, 0, none⟩) x[i].length rc := by
    rw [List.getElem?_eq_getElem hi] at g1
    exact Option.some.inj g1
  rw [hui] at hrd
  have hx0 := hxr.2 _ (List.getElem_mem h0)
  have hco := hx0.co
  unfold P4.within at hco
  have hne : u0 ≠ rb := fun e => by
    subst e
    rw [hu0b] at g2
    injection g2 with g2
    injection g2 with _ g2
    exact absurd g2 (by decide)
  conv => whnf
  refine dec_intro (by omega) ?_
  conv => whnf
  refine ⟨[.slice (some ⟨rb, 0, none⟩) x[i].length rc], hrd, ?_⟩
  conv => whnf
  refine dec_intro (by omega) ?_
  conv => whnf
  refine ⟨[.int .i64 (x[i][0]).1.a], g3 _, ?_⟩
  conv => whnf
  refine dec_intro (by omega) ?_
  conv => whnf
  refine ⟨_, _, g2, g4, ?_⟩
  rw [wrap_id (n := (x[i][0]).1.a + 1) (by omega) (by omega)]
  have su := poke_small (i := i) (a := (x[i][0]).1.a + 1) sx (by omega)
  have hr2 := g5 ((x[i][0]).1.a + 1)
  have ho2 : OwnS (ins O91 rb (.cells ⟨cs.take (0 + 0 * 5 + 0) ++ [.int .i64 ((x[i][0]).1.a + 1)] ++ cs.drop (0 + 0 * 5 + 0 + 1)⟩ 28 (0, 0))) 1 50 (.slice (some ⟨u0, 0, none⟩) us.length uc) (us.map fun u => [u]) := by
    refine ⟨ho.1, ho.2.imp id ?_⟩
    rintro ⟨b', cap', sp', e', hO', q3, q4⟩
    refine ⟨b', cap', sp', e', (ins_ne _ _ fun eb => hne ?_).trans hO', q3, q4⟩
    injection e' with q1 _ _
    injection q1 with q1
    injection q1 with q1 _ _
    exact q1.trans eb
  obtain ⟨O92, hO92⟩ : ∃ X, X = ins O91 rb (.cells ⟨cs.take (0 + 0 * 5 + 0) ++ [.int .i64 ((x[i][0]).1.a + 1)] ++ cs.drop (0 + 0 * 5 + 0 + 1)⟩ 28 (0, 0)) := ⟨_, rfl⟩
  rw [← hO92] at hr2 ho2
  conv => whnf
  have hul2 : (pokeM x i ((x[i][0]).1.a + 1)).length < 1000000 := by rw [su.1]; omega
  generalize pokeM x i ((x[i][0]).1.a + 1) = U at *
  have h34 := Cl.share' (H := H91) (R := O92) (Q := fun r => r = .tuple #[.int .i64 (PhaseF U x).1, .int .i64 (PhaseF U x).2]) (c34 x x mx.lens.1 mx.lens.1 _ _ _ hx hx).ent (args := [.slice (some ⟨u0, 0, none⟩) us.length uc, _]) fun hd => c34 U x hul2 mx.lens.1 _ _ _ (RowsS.share hd ho2 hr2) (hx.up un_l)
  rw [hO92] at h34
  refine h34.mono fun r H93 O93 s93 hq => ?_
  obtain ⟨o93, rfl⟩ := hq
  rw [← hO92] at o93
  replace hr2 : RowsS O93 us U := hr2.keep fun n cs hn => o93 _ _ hn
  replace ho2 : OwnS O93 1 50 (.slice (some ⟨u0, 0, none⟩) us.length uc) (us.map fun u => [u]) := OwnS.keep ho2 fun n cs hn => o93 _ _ hn
  replace hx := hx.up s93
  rcases phased_two mx su (by omega) (by omega) (by omega) (by omega) with ⟨j, z', j8, f1, f2, f3, f4, mz'⟩ | f1
  rotate_left
  · rw [f1]
    conv => whnf
    refine (c14 _).val fun H94 s94 => ?_
    conv => whnf
  rw [f1]
  conv => whnf
  refine (c54 (j : Int) _).val fun H94 s94 => ?_
  replace hx := hx.up s94
  conv => whnf
  have hc95 := Cl.outH (c42 x (OmegaF (j : Int)) mx.lens.1 _ _ hx)
  rw [f2] at hc95
  refine hc95.use fun r H95 s95 hq => ?_
  obtain ⟨_, vz', rfl, hz'⟩ := hq
  obtain ⟨sb95, sc95, rfl⟩ := MatH.sl hz'
  conv => whnf
  have h33 := Cl.share' (H := H95) (R := O93) (Q := fun r => r = .tuple #[.bool (if errsM [U, z'] = 0 then sameF U z' else false), .int .i64 (errsM [U, z'])]) (c33 z' z' mz'.lens.1 mz'.lens.1 _ _ _ hz' hz').ent (args := [.slice (some ⟨u0, 0, none⟩) us.length uc, _]) fun hd => c33 U z' hul2 mz'.lens.1 _ _ _ (RowsS.share hd ho2 hr2) (hz'.up un_l)
  rw [f3, if_pos rfl, f4] at h33
  refine h33.mono fun r H96 O96 s96 hq => ?_
  obtain ⟨_, rfl⟩ := hq
  conv => whnf
  refine (c14 _).val fun H97 s97 => ?_
  conv => whnf
end Go.Proofs.YtbbjhegapilhpaaGreat

namespace Go.Proofs.YtbbjhegapilhpaaGreat
open Go.Proofs.YtbbjhegapilhpaaGreat.X Go.Proofs.YtbbjhegapilhpaaGreat.X.PH Go.ChangeShapes Go.WideShapes Go.ChangeAt Go.RowKit Go.Deep
set_option maxRecDepth 100000
section
variable {H : Type} {enc : TypeId × Value → H} {W : World}
/-- An integer that is passed in. -/
theorem open_int {r : Reach} {base : Nat} {v : Value} {d : DataW H} {p : List MemPlace} (hv : Value.okWide Tryz.prog W r base 3 v) (_ : DataW.Trod enc Tryz.prog W 0 (fun _ => true) true 3 v d p) : ∃ n, v = .int .i64 n ∧ (-9223372036854775808 ≤ n ∧ n < 9223372036854775808) := by
  have hv' := hv
  obtain ⟨n, rfl⟩ := okWide_int Tryz.underlying3 hv
  refine ⟨n, rfl, ?_⟩
  simp only [Value.okWide, Tryz.underlying3, Cell.okWide, Cell.ok] at hv'
  have h := hv'.2
  unfold IntKind.has at h
  exact ⟨h.1, by have := h.2; have e : IntKind.i64.max = 9223372036854775807 := rfl; omega⟩
end
end Go.Proofs.YtbbjhegapilhpaaGreat

namespace Go.Proofs.YtbbjhegapilhpaaGreat
open Go.Proofs.YtbbjhegapilhpaaGreat.X Go.Proofs.YtbbjhegapilhpaaGreat.X.PH Go.ChangeShapes Go.WideShapes Go.ChangeAt Go.RowKit Go.Deep
set_option maxRecDepth 100000

theorem matrixPhased_lifted (os : Os) (started : os.Started) (H : Type) (enc : TypeId × Value → H) :
    ReturnsInHanded {} Tryz.checked os 9 .any (Rows.matrixPhasedSpec.pre6 enc Tryz.prog Tryz.f9 Rows.matrixPhasedRow.domain false) (Rows.matrixPhasedSpec.post enc Tryz.prog Tryz.f9 false true false false) := by
  refine returnsInHanded_of_change (C := Tryz.checked) own started (by kernel_rfl) Tryz.func9
    (ChangeSpec.witness6 (enc := enc) (C := Tryz.checked) false ⟨#[], #[.slice none 0 0, .int .i64 0], []⟩ 8 (by kernel_rfl) (by kernel_rfl) (by kernel_rfl) (by kernel_rfl)) ?_
  intro W base args ds gs before hval0 hW _ _
  have hval : ∀ (j : Nat) t v, Tryz.f9.params[j]? = some t → args[j]? = some v → Value.okWide Tryz.prog W .any base t v := hval0
  have hW' := hW
  obtain ⟨p, q, hA0, hV, rfl, _, _⟩ := hW
  have hA : DataW.TrodAll enc Tryz.prog W 0 (fun _ => true) true Tryz.f9.params.toList args.toList ds p := hA0
  rw [Tryz.params9] at hA hval
  obtain ⟨v0, v1, d0, d1, p0, p1, rfl, rfl, rfl, g0, g1⟩ := trodAll_two hA
  obtain ⟨rfl, rfl⟩ := trodVars_none hV
  obtain ⟨a0, len0, cap0, rfl⟩ := okWide_slice Tryz.underlying58 (hval 0 58 v0 rfl rfl)
  obtain ⟨m0, el0, h0, cl0, b0⟩ := open_bytes g0
  obtain ⟨m1, rfl, b1⟩ := open_int (hval 1 3 v1 rfl rfl) g1
  clear hA0 hval0
  simp only [List.append_nil] at hW'
  have hlt : ∀ x ∈ p0 ++ p1, x.block < W.heap.size := fun x hx => by simpa using hW'.lt x hx
  have hmax : maxLen = 9223372036854775807 := rfl
  rw [hmax] at b0
  subst el0
  have hc := c9 m1 m0 _ _ cl0 (by omega) (heapP W) h0
  refine (Cl.calls hc).mono ?_
  rintro e W' ⟨v, rfl, hbel, rfl⟩
  have k0 := Below.trod (t := 58) laidOut (by kernel_rfl) (of_decide_eq_true (by kernel_rfl)) g0 hbel fun x hx => hlt x (by simp [hx])
  have k1 := Below.trod (t := 3) laidOut (by kernel_rfl) (of_decide_eq_true (by kernel_rfl)) g1 hbel fun x hx => hlt x (by simp [hx])
  have hk := trodAll_mk2 k0 k1
  refine ⟨_, rfl, [d0, d1], [], p0 ++ p1, [], p0 ++ p1, [], hW', trodAll_mk1 (shut_bool Tryz.underlying4 _), hk, rfl, hbel.frame _, fun h => by cases h⟩

/-- MatrixPhased answers true for every input, and the input reads as it did. -/
theorem matrixPhased_holds : Rows.MatrixPhasedSaid :=
  OpenClaim.holds_of_wide 9 Tryz.f9 rfl rfl rfl rfl rfl rfl rfl ⟨rfl, rfl, rfl, rfl, rfl⟩ rfl rfl rfl rfl rfl (by kernel_rfl) Tryz.func9 (by kernel_rfl)
    (of_decide_eq_true (by kernel_rfl)) (by unfold Func.isWrapper; first | (rw [if_pos (by decide +kernel)]; kernel_rfl) | (rw [if_neg (by decide +kernel)]; exact ⟨rfl, rfl⟩))
    (fun os started H enc _ => matrixPhased_lifted os started H enc)
#print axioms matrixPhased_holds
end Go.Proofs.YtbbjhegapilhpaaGreat
