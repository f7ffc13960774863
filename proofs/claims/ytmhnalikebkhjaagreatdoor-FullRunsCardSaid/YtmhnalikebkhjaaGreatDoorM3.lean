/- A logic for code of the model, proved sound, and what functions do that the laws on matrices come to; nothing is asked. Part 3. -/
import Derived.Test.YtmhnalikebkhjaaGreatDoorM2

set_option linter.unusedVariables false
set_option linter.unusedSimpArgs false
set_option linter.unnecessarySimpa false


namespace Go.Proofs.YtmhnalikebkhjaaGreatDoor.X
open Go PH

/-- As IterR; and what it hands to yield may be new since the last yield. -/
def IterN (P : Program) (bm : Nat) (I : PH → Obj → Prop) (H0 : PH) (f : Value) {α : Type} (ys : List α) (R : α → List Value → PH → PH → Prop) : Prop :=
  ∃ g first cap, f = .func (.func g) ⟨first⟩ ⟨cap⟩ ∧ ∀ (H : PH), Sub H0 H → ∀ (l : Nat) (M : PH) (J : Nat → PH → PH → PH → Prop) (Jx : PH → PH → Prop), J 0 H H M → (∀ k Hp H' H'' M', J k Hp H' M' → Sub H' H'' → J k Hp H'' M') →
    (∀ k Hp H' M', J k Hp H' M' → Sub Hp H') →
    (∀ k Hp H' M', J k Hp H' M' → ∃ o, M' bm = some o ∧ I H' o) → (∀ k Hp H' M' o, J k Hp H' M' → I H' o → J k Hp H' (ins M' bm o)) →
    (∀ k y, ys[k]? = some y → ∀ x Hp H' M', Sub H H' → J k Hp H' M' → R y x Hp H' → Yl P l x H' M' fun v H'' M'' => (v = .bool true ∧ J (k + 1) H'' H'' M'') ∨ (v = .bool false ∧ Jx H'' M'')) →
    Cl P g (first ++ [.func (.yield l) #[] #[]] ++ cap) H M fun _ H' M' => (∃ Hp, J ys.length Hp H' M') ∨ Jx H' M'

section
variable {Γ : TypeId → TI} {P : Program}
theorem W_rangeN {α : Type} {bm : Nat} {I : PH → Obj → Prop} {pol : Tmp → Pol} {g : Operand} {ps : List Tmp} {as body : Code} {env : List En} {loc : List (Option B)} {H O : PH} {K : Exit → S → Prop} (hΓ : ∀ t, TIOK P t (Γ t)) (ys : List α) (R : α → List Value → PH → PH → Prop) (hf : evK env g fun e => e.valK fun f => IterN P bm I H f ys R)
    (ι : Type) (Φ : Nat → ι → PH → Prop) (Ψ : Exit → ι → PH → Prop) (cells : ι → List (Nat × List Value)) (OO HP : ι → PH)
    (mono : ∀ k i H H', Sub H H' → Φ k i H → Φ k i H') (mono' : ∀ e i H H', Sub H H' → Ψ e i H → Ψ e i H')
    (inv : ∀ k i H', Φ k i H' → ∃ o, OO i bm = some o ∧ I H' o) (chg : ∀ k i H' o, Φ k i H' → I H' o → ∃ i', Φ k i' H' ∧ OO i' = ins (OO i) bm o ∧ cells i' = cells i ∧ HP i' = HP i)
    (h0 : ∃ i, Φ 0 i H ∧ HP i = H ∧ OO i = O ∧ locsK (cells i) loc fun loc' => loc' = loc)
    (round : ∀ k y, ys[k]? = some y → ∀ x i H', Sub H H' → Φ k i H' → Sub (HP i) H' → R y x (HP i) H' → ∀ (l : Nat) (o o' : Obj), OO i l = none → locsK (cells i) loc fun loc' => putsK ps x env fun env' =>
      codeK Γ P (some l) pol as ⟨env', loc', H', ins (OO i) l o⟩ fun e s1 => e = .normal ∧ match s1 with
        | ⟨env1, loc1, H1, O1⟩ => ∃ O1', O1 = ins O1' l o ∧ codeK Γ P (some l) pol body ⟨env1, loc1, H1, ins O1' l o'⟩ fun e s2 => match s2 with
          | ⟨_, loc2, H2, O2⟩ => ∃ j, ((e = .normal ∧ Φ (k + 1) j H2 ∧ HP j = H2) ∨ (Ψ e j H2 ∧ (jumpOf e).isSome = true)) ∧ OO j l = none ∧ O2 = ins (OO j) l o' ∧ locsK (cells j) loc fun loc' => leL loc2 loc' True)
    (done : ∀ i H', Sub H H' → Φ ys.length i H' → Sub (HP i) H' → locsK (cells i) loc fun loc' => K .normal ⟨env, loc', H', OO i⟩)
    (left : ∀ e i H', Sub H H' → Ψ e i H' → locsK (cells i) loc fun loc' => K e ⟨env, loc', H', OO i⟩) : W P none (.rangeFunc g ⟨ps⟩ as body) ⟨env, loc, H, O⟩ K := by
  unfold W
  intro φ a w hr hR
  obtain ⟨eg, hk, hh⟩ := evK_inv (s := ⟨env, loc, H, O⟩) hR hf
  obtain ⟨g', first, cap, hga, hit⟩ := valK_inv hh hk
  refine wpIn_rangeFunc fun fn _ => ?_
  let rec0 : Loop := { state := .ready, pending := none, fn, tmps := a.tmps, params := ⟨ps⟩, assign := as, body, defers := w.heap.size }
  let l := w.heap.size + 1
  let w2 := (w.alloc (.deferred (some []))).alloc (.loop rec0)
  have hresolve : (resolve a.eval (rangeCall g l) 0).run P w2 = .ok { target := .fn (.func g') ⟨cap⟩, args := ⟨first⟩ ++ #[.func (.yield l) #[] #[]] } w2 := by
    have e1 : Array.map a.eval #[Operand.const (Value.func (Fn.yield l) #[] #[])] = #[Value.func (Fn.yield l) #[] #[]] := by simp [Act.eval]
    simp only [resolve, rangeCall, hga, Deferred.ofValue, e1]
    rfl
  have hw2 : ∀ n o, w.heap[n]? = some o → w2.heap[n]? = some o := fun n o h => alloc_keeps _ (alloc_keeps _ h)
  have hl2 : w2.heap[l]? = some (.loop rec0) := by
    have e : l = (w.alloc (.deferred (some []))).heap.size := by simp [l]
    rw [e]
    exact alloc_new _ _
  have hd2 : w2.heap[w.heap.size]? = some (.deferred (some [])) := alloc_keeps _ (alloc_new w _)
  have hlw : w.heap.size ≤ l := by simp [l]
  obtain ⟨i0, hΦ0, hP0, hO0, hl0⟩ := h0
  have hLI0 : LI (cells i0) loc loc := by
    obtain ⟨x, h1, h2⟩ := LI.of hl0
    rw [h2] at h1; exact h1
  have hgood0 : Good H O loc l := by
    refine ⟨fun i b hb => ?_, hR.apart, hR.inO.none hlw⟩
    obtain ⟨h1, h2, h3, h4⟩ := hR.loc i b hb
    have := hR.loc_lt hb
    exact ⟨h2, by omega, h3⟩
  have hin2 : In (mem O loc l (.loop rec0)) w2 := by
    intro n x hx
    rcases mem_cases hx with ⟨rfl, rfl⟩ | hx | ⟨i, b, hb, rfl, _, rfl⟩
    · exact hl2
    · exact hw2 _ _ (hR.inO _ _ hx)
    · exact hw2 _ _ (hR.loc i b hb).1
  have hdis2 : Dis H (mem O loc l (.loop rec0)) := by
    intro n
    cases e : mem O loc l (.loop rec0) n with
    | none => exact .inr rfl
    | some x =>
      rcases mem_cases e with ⟨rfl, _⟩ | hx | ⟨i, b, hb, rfl, hp, _⟩
      · exact .inl (hR.inH.none hlw)
      · exact .inl ((hR.dis n).resolve_right (by dsimp only; rw [hx]; simp))
      · exact .inl ((hR.loc i b hb).2.2.2 hp).1
  have hinH2 : In H w2 := fun n o h => hw2 _ _ (hR.inH n o h)
  -- the states between rounds
  let J : Nat → PH → PH → PH → Prop := fun k Hp => Btw (fun i H => Φ k i H ∧ HP i = Hp ∧ Sub Hp H) cells OO loc l (.loop rec0)
  let Jx : PH → PH → Prop := fun H' M' => ∃ e c, jumpOf e = some c ∧ Btw (Ψ e) cells OO loc l (.loop { rec0 with state := .done, pending := some c }) H' M'
  have hJ0 : J 0 H H (mem O loc l (.loop rec0)) := ⟨i0, loc, ⟨hΦ0, hP0, Sub.refl _⟩, hLI0, by rw [hO0], by rw [hO0]; exact hgood0⟩
  have hround : ∀ k y, ys[k]? = some y → ∀ x Hp H' M', Sub H H' → J k Hp H' M' → R y x Hp H' → Yl P l x H' M' fun v H'' M'' => (v = .bool true ∧ J (k + 1) H'' H'' M'') ∨ (v = .bool false ∧ Jx H'' M'') := by
    intro k y hx x Hp H' M' hs hJ hRx
    obtain ⟨i, loc', ⟨hΦ, hHP, hSb⟩, hLI, rfl, hg⟩ := hJ
    subst hHP
    unfold Yl
    intro v hH' hM' hd'
    have hvl : v.heap[l]? = some (.loop rec0) := hM' _ _ (mem_l _ _ _ _)
    obtain ⟨env', hc, hlen, htsz, hte⟩ := puts_ok (loc := loc') (tmps := a.tmps) ((hLI _).1 (round k y hx x i H' hs hΦ hSb hRx l (.loop rec0) (.loop { rec0 with state := .busy }) hg.lO)) hR.size (fun t e he => hLI.same.holds (hR.env t e he))
    have hry := run_yield (P := P) (args := x.toArray) hvl (by simp [rec0, hlen])
    refine ⟨_, _, _, _, hry, roundIn_of_wpIn (F := wide none) trivial ?_⟩
    have htm : (rec0.params.zip x.toArray).foldl (fun (tmps : Array Value) (p : Tmp × Value) => tmps.setIfInBounds p.1 p.2) rec0.tmps = (ps.zip x).foldl (fun (tmps : Array Value) (p : Tmp × Value) => tmps.setIfInBounds p.1 p.2) a.tmps := by
      rw [← Array.foldl_toList]
      simp [rec0]
    have hRr : Real ⟨v, H', mem (OO i) loc' l (.loop rec0), some l⟩ ⟨env', loc', H', ins (OO i) l (.loop rec0)⟩ { tmps := (rec0.params.zip x.toArray).foldl (fun (tmps : Array Value) (p : Tmp × Value) => tmps.setIfInBounds p.1 p.2) rec0.tmps, defers := [] } v := by
      rw [htm]
      refine ⟨htsz, hte, fun j b hb => ?_, hg.apart, hH', ?_, ?_, Sub.refl _, ?_, Frm.refl _ _, List.Pairwise.nil, (by simp)⟩
      · obtain ⟨h1, h2, h3⟩ := hg.locs j b hb
        refine ⟨?_, by dsimp only; rw [ins_ne _ _ h2]; exact h1, h3, fun hp => ?_⟩
        · cases hp : b.pub with
          | true => exact hH' _ _ (h3 hp)
          | false => exact hM' _ _ (mem_loc hg hb hp)
        · have hm := mem_loc (o := .loop rec0) hg hb hp
          exact ⟨(hd' b.n).resolve_right (by rw [hm]; simp), .inr (by dsimp only; rw [hm]; simp)⟩
      · intro n o hn
        by_cases e : n = l
        · subst e; dsimp only at hn; rw [ins_same] at hn; cases hn; exact hvl
        · dsimp only at hn; rw [ins_ne _ _ e] at hn; exact hM' _ _ (mem_O hg hn)
      · intro n
        by_cases e : n = l
        · subst e; exact .inl ((hd' l).resolve_right (by rw [mem_l]; simp))
        · dsimp only
          rw [ins_ne _ _ e]
          cases e' : OO i n with
          | none => exact .inr rfl
          | some o => exact .inl ((hd' n).resolve_right (by rw [mem_O hg e']; simp))
      · intro n _ hn
        obtain ⟨h1, h2, h3⟩ := mem_none hn
        exact ⟨rfl, by dsimp only; rw [ins_ne _ _ h1]; exact h2⟩
    refine wpIn_mono (codeK_sound hΓ as _ _ hc _ _ _ rfl hRr) ?_
    rintro e a1 w3 ⟨hok, ⟨env1, loc1, H1, O1⟩, ⟨rfl, O1', rfl, hbody⟩, hR1⟩
    have hl3 : w3.heap[l]? = some (.loop rec0) := hR1.inO l _ (ins_same _ _ _)
    refine ⟨_, run_beginRound hl3 rfl, ?_⟩
    have hR2 := hR1.put_own (.loop { rec0 with state := .busy }) (ins_same _ _ _)
    dsimp only at hR2
    rw [ins_ins] at hR2
    refine wpIn_mono (codeK_sound hΓ body _ _ hbody _ _ _ rfl hR2) ?_
    rintro e a2 w4 ⟨hok2, ⟨env2, loc2, H2, O2⟩, ⟨j, hj, hjl, rfl, hlj⟩, hR3⟩
    have hl4 : w4.heap[l]? = some (.loop { rec0 with state := .busy }) := hR3.inO l _ (ins_same _ _ _)
    obtain ⟨locj, hLIj, hlej⟩ := LI.of hlj
    obtain ⟨_, hup, hlenj⟩ := leL_inv hlej
    have hgj : Good H2 (OO j) locj l := by
      refine ⟨fun q b hb => ?_, fun q q' b c hb hc => hR3.apart q q' b c (hup q b hb) (hup q' c hc), hjl⟩
      obtain ⟨h1, h2, h3, h4⟩ := hR3.loc q b (hup q b hb)
      dsimp only at h2
      have hne : b.n ≠ l := fun e => by rw [e, ins_same] at h2; cases h2
      rw [ins_ne _ _ hne] at h2
      exact ⟨h2, hne, h3⟩
    have fin : ∀ (o : Loop) (jump : Option Code), ({ ({ rec0 with state := .busy } : Loop) with state := if jump.isNone then .ready else .done, pending := jump } : Loop) = o →
        ∀ R : Value → PH → PH → Prop, R (.bool jump.isNone) H2 (mem (OO j) locj l (.loop o)) → ∃ v' w', (Instr.endRound l jump).run P w4 = .ok v' w' ∧ ∃ v'' H'' M'', Ending.returned v' = .returned v'' ∧ Post v H' (mem (OO i) loc' l (.loop rec0)) w' H'' M'' ∧ R v'' H'' M'' := by
      intro o jump ho R hRR
      refine ⟨_, _, run_endRound jump hl4, _, H2, _, rfl, ?_, hRR⟩
      rw [ho]
      have hR4 := hR3.put_own (.loop o) (ins_same _ _ _)
      dsimp only at hR4
      rw [ins_ins] at hR4
      refine ⟨hR4.sub, hR4.inH, ?_, ?_, ?_, hR4.frm⟩
      · intro n x hx
        rcases mem_cases hx with ⟨rfl, rfl⟩ | hx | ⟨q, b, hb, rfl, _, rfl⟩
        · exact hR4.inO l _ (ins_same _ _ _)
        · have hn : n ≠ l := fun e => by rw [e, hgj.lO] at hx; cases hx
          exact hR4.inO n _ (by dsimp only; rw [ins_ne _ _ hn]; exact hx)
        · exact (hR4.loc q b (hup q b hb)).1
      · intro n
        cases e : mem (OO j) locj l (.loop o) n with
        | none => exact .inr rfl
        | some x =>
          rcases mem_cases e with ⟨rfl, _⟩ | hx | ⟨q, b, hb, rfl, hp, _⟩
          · exact .inl ((hR4.dis _).resolve_right (by dsimp only; rw [ins_same]; simp))
          · have hn : n ≠ l := fun e => by rw [e, hgj.lO] at hx; cases hx
            exact .inl ((hR4.dis n).resolve_right (by dsimp only; rw [ins_ne _ _ hn, hx]; simp))
          · exact .inl ((hR4.loc q b (hup q b hb)).2.2.2 hp).1
      · intro n hn hm
        obtain ⟨k1, k2⟩ := hR4.old n hn hm
        dsimp only at k1 k2
        obtain ⟨m1, m2, m3⟩ := mem_none hm
        rw [ins_ne _ _ m1] at k2
        refine ⟨k1, mem_non m1 k2 fun q b hb hp e => ?_⟩
        rcases ((hR4.loc q b (hup q b hb)).2.2.2 hp).2 with h | h
        · dsimp only at h; omega
        · dsimp only at h; rw [e, hm] at h; exact h rfl
    cases e with
    | normal =>
      rcases hj with ⟨_, hj, hjp⟩ | ⟨_, hj⟩
      · exact fin rec0 none rfl _ (.inl ⟨rfl, j, locj, ⟨hj, hjp, Sub.refl _⟩, hLIj, rfl, hgj⟩)
      · cases hj
    | ret =>
      rcases hj with ⟨hj, _⟩ | ⟨hj, _⟩
      · cases hj
      · exact fin { rec0 with state := .done, pending := some .ret } (some .ret) rfl _ (.inr ⟨rfl, .ret, .ret, rfl, j, locj, hj, hLIj, rfl, hgj⟩)
    | exit id =>
      rcases hj with ⟨hj, _⟩ | ⟨hj, _⟩
      · cases hj
      · exact fin { rec0 with state := .done, pending := some (.exit id) } (some (.exit id)) rfl _ (.inr ⟨rfl, .exit id, .exit id, rfl, j, locj, hj, hLIj, rfl, hgj⟩)
    | goto t =>
      rcases hj with ⟨hj, _⟩ | ⟨_, hj⟩
      · cases hj
      · cases hj
    | panic _ => cases hok2
    | outgrown => cases hok2
  have hcl := hit H (Sub.refl H) l (mem O loc l (.loop rec0)) J Jx hJ0 (fun k Hp H' H'' M' hJ hs => hJ.up (fun i H1 H2 hs ⟨a, b, c⟩ => ⟨mono k i H1 H2 hs a, b, c.trans hs⟩) hs) (fun k Hp H' M' ⟨_, _, ⟨_, _, c⟩, _⟩ => c) (fun k Hp H' M' hJ => hJ.inv fun i H' h => inv k i H' h.1) (fun k Hp H' M' o hJ ho => hJ.chg (fun i H' o ⟨a, b, c⟩ ho => by
    obtain ⟨i', h1, h2, h3, h4⟩ := chg k i H' o a ho
    exact ⟨i', ⟨h1, h4.trans b, c⟩, h2, h3⟩) (fun i H' h => inv k i H' h.1) ho) hround
  unfold Cl at hcl
  obtain ⟨hent, hcl⟩ := hcl
  refine ⟨l, [{ target := .collected w.heap.size, args := #[] }], w2, _, w2, g', (first ++ [Value.func (.yield l) #[] #[]] ++ cap).toArray, w2, ?_, hresolve, fun _ _ => trivial, ?_, (by intro h; cases h), ?_⟩
  · exact run_enterLoop_outer fn a.tmps ⟨ps⟩ as body
  · have := hent (first ++ [Value.func (.yield l) #[] #[]] ++ cap).toArray w2
    simp only [invoke]
    simpa using this
  refine callsIn_wide.2 ((hcl w2 hinH2 hin2 hdis2).mono ?_)
  rintro e w3 ⟨v, H', M', rfl, hp, hq⟩
  -- after the call
  have fin : ∀ (i : ι) (loc' : List (Option B)) (o : Loop), o.state ≠ .busy → LI (cells i) loc loc' → M' = mem (OO i) loc' l (.loop o) → Good H' (OO i) loc' l →
      (Instr.endLoop l).run P w3 = .ok o.pending (w3.putObj l (.loop { o with state := .exhausted })) ∧
      Real φ ⟨env, loc', H', OO i⟩ { a with defers := [{ target := .collected w.heap.size, args := #[] }] ++ a.defers } (w3.putObj l (.loop { o with state := .exhausted })) := by
    intro i loc' o ho hLI hM hg
    have hl3 : w3.heap[l]? = some (.loop o) := hp.inM _ _ (by rw [hM]; exact mem_l _ _ _ _)
    refine ⟨run_endLoop hl3 ho, ?_⟩
    have hne : ∀ {n : Nat}, n ≠ l → (w3.putObj l (.loop { o with state := .exhausted })).heap[n]? = w3.heap[n]? := fun h => World.putObj_heap_other h
    have hHl : H' l = none := (hp.dis l).resolve_right (by rw [hM, mem_l]; simp)
    have hM0 : ∀ n, n < w.heap.size → O n = none → (∀ (q : Nat) (b : B), loc[q]? = some (some b) → b.pub = false → b.n ≠ n) → mem O loc l (.loop rec0) n = none := fun n hn h1 h2 => mem_non (by omega) h1 h2
    have hold : ∀ n, n < w.heap.size → O n = none → (∀ (q : Nat) (b : B), loc[q]? = some (some b) → b.pub = false → b.n ≠ n) → w3.heap[n]? = w.heap[n]? ∧ H' n = H n ∧ M' n = none := by
      intro n hn h1 h2
      have hm := hM0 n hn h1 h2
      have hn2 : n < w2.heap.size := by simp [w2]; omega
      refine ⟨(hp.frm.block n hn2 hm).trans ?_, hp.old n hn2 hm⟩
      have := Array.getElem?_eq_getElem hn
      rw [this]
      exact hw2 n _ this
    have hφ : ∀ n, n < φ.w.heap.size → φ.M n = none → O n = none ∧ ∀ (q : Nat) (b : B), loc[q]? = some (some b) → b.pub = false → b.n ≠ n := by
      intro n hn hm
      refine ⟨(hR.old n hn hm).2, fun q b hb hp' e => ?_⟩
      rcases ((hR.loc q b hb).2.2.2 hp').2 with h | h
      · omega
      · rw [e] at h; exact h hm
    have hsz := hR.frm.size
    refine ⟨hR.size, fun t e he => hLI.same.holds (hR.env t e he), fun q b hb => ?_, hg.apart, ?_, ?_, ?_, hR.sub.trans hp.sub, ?_, ?_, ?_, ?_⟩
    · obtain ⟨h1, h2, h3⟩ := hg.locs q b hb
      obtain ⟨b0, hb0, hbn, hbp⟩ := hLI.same.back hb
      refine ⟨(hne h2).trans ?_, h1, h3, fun hpb => ⟨?_, ?_⟩⟩
      · cases hpb : b.pub with
        | true => exact hp.inH _ _ (h3 hpb)
        | false => exact hp.inM _ _ (by rw [hM]; exact mem_loc hg hb hpb)
      · exact (hp.dis b.n).resolve_right (by rw [hM, mem_loc hg hb hpb]; simp)
      · rw [← hbn]
        exact ((hR.loc q b0 hb0).2.2.2 (hbp.trans hpb)).2
    · intro n x hn
      exact (hne (fun e => by dsimp only at hn; rw [e, hHl] at hn; cases hn)).trans (hp.inH n x hn)
    · intro n x hn
      have hnl : n ≠ l := fun e => by dsimp only at hn; rw [e, hg.lO] at hn; cases hn
      exact (hne hnl).trans (hp.inM n x (by rw [hM]; exact mem_O hg hn))
    · intro n
      dsimp only
      cases e : OO i n with
      | none => exact .inr rfl
      | some x => exact .inl ((hp.dis n).resolve_right (by rw [hM, mem_O hg e]; simp))
    · intro n hn hm
      obtain ⟨h1, h2⟩ := hφ n hn hm
      obtain ⟨k1, k2, k3⟩ := hold n (by omega) h1 h2
      rw [hM] at k3
      exact ⟨k2.trans (hR.old n hn hm).1, (mem_none k3).2.1⟩
    · refine ⟨hp.frm.os.trans hR.frm.os, hp.frm.tape.trans hR.frm.tape, hp.frm.output.trans hR.frm.output, ?_, fun n hn hm => ?_⟩
      · have h1 := hp.frm.size
        simp [w2] at h1 ⊢
        omega
      · obtain ⟨h1, h2⟩ := hφ n hn hm
        obtain ⟨k1, _, _⟩ := hold n (by omega) h1 h2
        exact (hne (by omega)).trans (k1.trans (hR.frm.block n hn hm))
    · refine List.pairwise_cons.2 ⟨fun d hd q hq e => ?_, hR.uniq⟩
      obtain ⟨q', q1, q2, _⟩ := hR.marks d hd
      rw [q1] at e
      cases e
      cases hq
      have := (Array.getElem?_eq_some_iff.1 q2).1
      omega
    · intro d hd
      rcases List.mem_append.1 hd with hd | hd
      · simp only [List.mem_singleton] at hd
        subst hd
        have hO2 : O w.heap.size = none := hR.inO.none (Nat.le_refl _)
        have hm : mem O loc l (.loop rec0) w.heap.size = none := mem_non (by simp [l]) hO2 fun q b hb _ e => by have := hR.loc_lt hb; omega
        have hn2 : w.heap.size < w2.heap.size := by simp [w2]; omega
        obtain ⟨k1, k2⟩ := hp.old _ hn2 hm
        rw [hM] at k2
        obtain ⟨m1, m2, m3⟩ := mem_none k2
        refine ⟨w.heap.size, rfl, (hne (by simp [l])).trans ((hp.frm.block _ hn2 hm).trans hd2), hsz, k1.trans (hR.inH.none (Nat.le_refl _)), m2, fun q b hb e => ?_⟩
        obtain ⟨b0, hb0, hbn, _⟩ := hLI.same.back hb
        have := hR.loc_lt hb0
        omega
      · obtain ⟨q, q1, q2, q3, q4, q5, q6⟩ := hR.marks d hd
        have hq := (Array.getElem?_eq_some_iff.1 q2).1
        obtain ⟨k1, k2, k3⟩ := hold q hq q5 (fun q' b hb _ => q6 q' b hb)
        rw [hM] at k3
        refine ⟨q, q1, (hne (by omega)).trans (k1.trans q2), q3, k2.trans q4, (mem_none k3).2.1, fun q' b hb e => ?_⟩
        obtain ⟨b0, hb0, hbn, _⟩ := hLI.same.back hb
        exact q6 q' b0 hb0 (hbn.trans e)
  rcases hq with ⟨_, i, loc', ⟨hΦ, hPe, hPs⟩, hLI, hM, hg⟩ | ⟨e, c, hc, i, loc', hΨ, hLI, hM, hg⟩
  · obtain ⟨h1, h2⟩ := fin i loc' rec0 (by simp [rec0]) hLI hM hg
    exact ⟨_, _, h1, rfl, _, (hLI _).1 (done i H' hp.sub hΦ (hPe ▸ hPs)), h2⟩
  · obtain ⟨h1, h2⟩ := fin i loc' _ (by simp) hLI hM hg
    refine ⟨_, _, h1, ?_⟩
    have hk := (hLI _).1 (left e i H' hp.sub hΨ)
    cases e with
    | ret => cases hc; exact wpIn_ret ⟨rfl, _, hk, h2⟩
    | exit id => cases hc; exact wpIn_exit ⟨rfl, _, hk, h2⟩
    | normal => cases hc
    | goto _ => cases hc
    | panic _ => cases hc
    | outgrown => cases hc
end
end Go.Proofs.YtmhnalikebkhjaaGreatDoor.X
