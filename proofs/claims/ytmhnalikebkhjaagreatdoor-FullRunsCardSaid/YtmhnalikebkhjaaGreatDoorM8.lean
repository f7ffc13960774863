/- A logic for code of the model, proved sound, and what functions do that the laws on matrices come to; nothing is asked. Part 8. -/
import Derived.Test.YtmhnalikebkhjaaGreatDoorM7
import Derived.LaidMore
import Derived.ProofKit
import Derived.Stop.Joined
import Derived.Test.YtmhnalikebkhjaaGreatDoorRows

set_option linter.unusedVariables false
set_option linter.unusedSimpArgs false
set_option linter.unnecessarySimpa false


namespace Go.Proofs.YtmhnalikebkhjaaGreatDoor
open Go.Proofs.YtmhnalikebkhjaaGreatDoor.X Go.Proofs.YtmhnalikebkhjaaGreatDoor.X.PH
set_option maxRecDepth 100000

theorem ins_swap {O : PH} {a b : Nat} {x y : Obj} (h : a ≠ b) : ins (ins O a x) b y = ins (ins O b y) a x := by
  funext n
  by_cases ha : n = a
  · subst ha
    rw [ins_ne _ _ h, ins_same, ins_same]
  · rw [ins_ne (ins O b y) _ ha]
    by_cases hb : n = b
    · subst hb; rw [ins_same, ins_same]
    · rw [ins_ne _ _ hb, ins_ne _ _ ha, ins_ne _ _ hb]
theorem d15 (c : Ct) (v : Vec) (hfit : c.fit) (hv : v.length ≤ 100000) (H : PH) (x y : Value) (hx : CircH H x c) (hy : NumH H y v) : Cl Tryz.prog 15 [x, y] H emp fun r H' _ => OutVH H' r (bitsR c v) := Cl.outV (d15o c v hfit hv H x y hx hy)
set_option maxHeartbeats 4000000 in
theorem d18o (c : Ct) (v : Vec) (gs : Value) (hfit : c.fit) (hv : v.length ≤ 100000) (H : PH) (y : Value) (hx : GatesH H gs c.gates) (hy : NumH H y v) : Cl Tryz.prog 18 [cv c gs, y] H emp fun r _ M' => OutVO M' r (bitsR c v) := by
  have hg := hx
  obtain ⟨gb, gc, rfl⟩ := hx.sl
  obtain ⟨yb, yc, rfl, _⟩ := id hy
  refine Cl_of (pol := (fun | 54 => .imm | _ => .loc)) Γok Tryz.func18 (by kernel_rfl) rfl ?_
  conv => whnf
  intro b2
  conv => whnf
  intro b4
  conv => whnf
  intro b5
  conv => whnf
  refine (d61 c v (.slice gb c.gates.length gc) hfit hv _ _ hg hy).mono fun r Ha Ma sa hr => ?_
  rcases hr with ⟨he, rfl⟩ | ⟨he, bm, hbm, rfl⟩
  · conv => whnf
    intro b6
    conv => whnf
    refine if_intro (fun h => ?_) (fun h => ?_)
    · conv => whnf
      rw [show bitsR c v = ([], beginErr c v) by
        have e : runR c v = ([], beginErr c v) := if_pos he
        unfold bitsR
        rw [e, if_pos he]]
      exact OutVO.bad
    · exact absurd (eq_of_neq h) he
  obtain ⟨n, m, hok⟩ := run_ok he
  have m8 := hok.m8
  have hbits := hok.bits
  obtain ⟨p1, p2⟩ := pow6 hok.n6
  have hm1 : 2 ^ m ≤ 256 := Nat.pow_le_pow_right (n := 2) (by decide) m8
  have hmem := ev_mem c.gates (startB v) 0 hok.gates hok.start hok.startBit
  have hsame := bits_same he hok
  conv => whnf
  intro b6
  conv => whnf
  refine dec_intro (by omega) ?_
  rw [hbits]
  conv => whnf
  obtain ⟨s, hs⟩ : ∃ s, s = 2 ^ m := ⟨_, rfl⟩
  rw [shl_nat (by omega), ← hs]
  rw [← hs] at hm1
  conv => whnf
  refine dec_intro (Int.le_refl _) ?_
  conv => whnf
  refine dec_intro (by omega) ?_
  conv => whnf
  refine dec_intro (by omega) ?_
  conv => whnf
  intro bb hbb hObb
  rw [show (List.replicate (s : Int).toNat _).flatten = cellsN (zeros s) from zeros_flat s]
  conv => whnf
  intro b9
  conv => whnf
  refine (Cl.args (by rw [← hbits] <;> rfl) (d62n c n m v hok (.slice gb c.gates.length gc) (.slice yb v.length yc) 102 [] bm false (fun _ => [0, 1]) (fun k _ => ⟨by simp, by simp⟩) _ (NumH.up hy sa) (hg.up sa) (fun lp os h _ => cho01 _ lp os h))).use fun it Hb sb hit => ?_
  obtain ⟨_, hit⟩ := hit
  conv => whnf
  have hit : IterN Tryz.prog bm OpsI Hb it (ysOf (runE c v)) BrN := hit
  have hbmb : bm ≠ bb := fun e => by rw [e] at hbm; rw [hbm] at hObb; cases hObb
  unfold runE at hsame
  have hmem : ∀ b ∈ (runE c v).1, bitOK m b ∧ b.state.length = 2 ^ n ∧ ∀ y ∈ b.state, IsL y := hmem
  generalize hE : runE c v = E at hit hmem
  have hsame : bitsE E m = bitsR c v := by rw [← hE]; exact hsame
  rw [← hsame]
  clear hE hsame
  refine W_rangeN (pol := (fun | 54 => .imm | _ => .loc)) Γok (ysOf E) BrN hit (PH × PH × Vec × Int)
    (fun k i H' => i.2.2.2 = 0 ∧ k ≤ E.1.length ∧ Sub Hb i.1 ∧ (∃ o, i.2.1 bm = some o ∧ OpsI H' o) ∧ i.2.1 bb = some (.cells ⟨cellsN i.2.2.1⟩ 32 (0, 0)) ∧ i.2.2.1.length = s ∧ (∀ x ∈ i.2.2.1, IsL x) ∧ bitsF (zeros s) E.1 = bitsF i.2.2.1 (E.1.drop k))
    (fun x i _ => x = .ret ∧ bitsE E m = ([], i.2.2.2) ∧ i.2.2.2 ≠ 0)
    (fun i => [(1, [.slice none 0 0]), (2, [.int .i64 i.2.2.2])]) (fun i => i.2.1) (fun i => i.1) ?_ ?_ ?_ ?_ ⟨(Hb, _, zeros s, 0), ⟨rfl, Nat.zero_le _, Sub.refl _, ⟨_, (ins_ne _ _ hbmb).trans hbm, OpsI.nil _⟩, ins_same _ _ _, by simp [zeros], zeros_L s, by rw [List.drop_zero]⟩, rfl, rfl, ?_⟩ ?_ ?_ ?_
  · rintro k i H1 H2 hs ⟨a1, a2, a3, ⟨o, a4, a5⟩, a6⟩
    exact ⟨a1, a2, a3, ⟨o, a4, a5.up hs⟩, a6⟩
  · rintro x i H1 H2 hs h
    exact h
  · rintro k i H' ⟨a1, a2, a3, a4, a5⟩
    exact a4
  · rintro k ⟨i1, i2, i3, i4⟩ H' o ⟨a1, a2, a3, ⟨o', a4, a4'⟩, a5, a6⟩ ho
    exact ⟨(i1, ins i2 bm o, i3, i4), ⟨a1, a2, a3, ⟨o, ins_same _ _ _, ho⟩, (ins_ne _ _ (Ne.symm hbmb)).trans a5, a6⟩, rfl, rfl, rfl⟩
  · conv => whnf
    repeat (refine ⟨rfl, ?_⟩; conv => whnf)
  · rintro k y hyk x ⟨i1, i2, acc, i4⟩ H' hs' ⟨a1, a2, a3, ⟨om, a4, a4'⟩, a5, hli, haL, hpi⟩ hsp ⟨ov, sv, rfl, hov, hsv⟩ l o o' hl
    dsimp only at a1 a2 a3 a4 a5 hli haL hpi hsp hov hsv hl
    subst a1
    obtain ⟨ovb, ovc, rfl, _⟩ := IntsW.c hov
    obtain ⟨svb, svc, rfl, _⟩ := NumW.num hsv
    have hbl : bb ≠ l := fun e => by rw [e, hl] at a5; cases a5
    conv => whnf
    intro b10
    conv => whnf
    refine ⟨rfl, ?_⟩
    conv => whnf
    refine ⟨i2, rfl, ?_⟩
    conv => whnf
    refine if_intro (fun h => ?_) (fun h => ?_)
    · have hy2 : y.2 ≠ 0 := neq_of h
      rcases ys_at hyk with ⟨hk, rfl⟩ | ⟨hk, h2, rfl⟩
      · exact absurd rfl hy2
      have hbe : bitsE E m = ([], E.2) := by
        subst hk
        rw [List.drop_length] at hpi
        unfold bitsE
        rw [← hs, hpi]
        show (if (0 : Int) ≠ 0 then _ else _) = _
        rw [if_neg (by simp), if_pos h2]
      conv => whnf
      refine ⟨(i1, i2, acc, E.2), .inr ⟨⟨rfl, hbe, h2⟩, rfl⟩, hl, rfl, ?_⟩
      conv => whnf
      repeat (refine ⟨rfl, ?_⟩; conv => whnf)
      exact trivial
    have hy2 : y.2 = 0 := eq_of_neq h
    rcases ys_at hyk with ⟨hk, rfl⟩ | ⟨hk, h2, rfl⟩
    rotate_left
    · exact absurd hy2 h2
    obtain ⟨⟨bit0, bit1⟩, hsl, hsL⟩ := hmem _ (List.getElem_mem hk)
    rw [← hs] at bit1
    rw [bitsF_at hk] at hpi
    have hbad : ∀ e : Int, e ≠ 0 → bstep acc E.1[k] = ([], e) → bitsE E m = ([], e) := fun e h0 hb => by
      rw [hb, if_pos h0] at hpi
      unfold bitsE
      rw [← hs, hpi]
      exact if_pos h0
    conv => whnf
    refine (d68 E.1[k].state (by rw [hsl]; omega) _ _ (NumW.num hsv)).val fun Hc sc => ?_
    have hN2 := (normG_e E.1[k].state (P4.zero, 0) (by decide) fun x hx => (hsL x hx).ok).2
    generalize hN : normG (P4.zero, 0) E.1[k].state = N at hN2 ⊢
    obtain ⟨⟨⟨xa, xb, xc, xd⟩, xk⟩, xe⟩ := N
    conv => whnf
    intro b12
    conv => whnf
    refine if_intro (fun hx => ?_) (fun hx => ?_)
    · have hx0 : xe = 0 := eq_of_beq hx
      subst hx0
      refine W_draw (pol := (fun | 54 => .imm | _ => .loc)) Γok mixes [(0, .pend), (1, .pend), (2, .pend), (3, .pendO), (4, .pendO), (5, .pendO), (6, .pendO), (7, .pendO), (8, .pendO), (9, .lock), (10, .lock), (11, .pendO), (12, .pendO), (13, .pendH), (14, .pendO), (15, .lock), (16, .pendO)] 63 (by kernel_rfl) rfl ?_
      conv => whnf
      refine dec_intro bit0 ?_
      conv => whnf
      refine dec_intro (by dsimp only; omega) ?_
      conv => whnf
      have hbn : E.1[k].bits.toNat < acc.length := by omega
      have hst0 : bstep acc E.1[k] = if (AddR (acc[E.1[k].bits.toNat]) ((⟨xa, xb, xc, xd⟩ : P4), xk)).2 ≠ 0 then ([], (AddR (acc[E.1[k].bits.toNat]) ((⟨xa, xb, xc, xd⟩ : P4), xk)).2) else (acc.set E.1[k].bits.toNat (AddR (acc[E.1[k].bits.toNat]) ((⟨xa, xb, xc, xd⟩ : P4), xk)).1, 0) := by
        unfold bstep
        rw [hN, if_neg (by simp), show vAt acc E.1[k].bits.toNat = acc[E.1[k].bits.toNat] by simp [vAt, List.getD_eq_getElem?_getD, hbn]]
      have hL2 : (bstep acc E.1[k]).2 = 0 → ∀ x ∈ (bstep acc E.1[k]).1, IsL x := (bstep_e haL hsL).2
      have hsum : SumF [acc[E.1[k].bits.toNat], ((⟨xa, xb, xc, xd⟩ : P4), xk)] = AddR (acc[E.1[k].bits.toNat]) ((⟨xa, xb, xc, xd⟩ : P4), xk) := sum_two (haL _ (List.getElem_mem hbn)) (by rw [← checkF_checkR]; exact hN2 rfl)
      refine ⟨cellsOf acc[E.1[k].bits.toNat], ⟨rfl, rfl, _, _, _, .inr ((ins_ne _ _ hbl).trans a5), cellsN_at hbn⟩, ?_⟩
      generalize hac : acc[E.1[k].bits.toNat] = ac at hst0 hsum ⊢
      obtain ⟨⟨za, zb, zc, zd⟩, zk⟩ := ac
      conv => whnf
      intro b54 hb54 hO54
      conv => whnf
      refine (d69 [((⟨za, zb, zc, zd⟩ : P4), zk), ((⟨xa, xb, xc, xd⟩ : P4), xk)] (by simp) _ _ (pair_num (ins_same _ _ _))).val fun Hd sd => ?_
      rw [hsum]
      have s54 := sub_ins Hc (.cells ⟨[.int .i64 za, .int .i64 zb, .int .i64 zc, .int .i64 zd, .int .i64 zk, .int .i64 xa, .int .i64 xb, .int .i64 xc, .int .i64 xd, .int .i64 xk]⟩ 32 (0, 0)) hb54
      generalize AddR ((⟨za, zb, zc, zd⟩ : P4), zk) ((⟨xa, xb, xc, xd⟩ : P4), xk) = A at hst0 ⊢
      obtain ⟨⟨⟨ya, yb', yc', yd⟩, yk⟩, ye⟩ := A
      conv => whnf
      refine dec_intro bit0 ?_
      conv => whnf
      refine dec_intro (by dsimp only; omega) ?_
      conv => whnf
      refine ⟨_, _, (ins_ne _ _ hbl).trans a5, ?_, ?_⟩
      · show 0 + E.1[k].bits.toNat * 5 + 5 ≤ (cellsN acc).length
        rw [cellsN_length]
        omega
      conv => whnf
      rw [ins_swap (Ne.symm hbl)]
      have hset : (cellsN acc).take (0 + E.1[k].bits.toNat * 5) ++ [Value.int .i64 ya, .int .i64 yb', .int .i64 yc', .int .i64 yd, .int .i64 yk] ++ (cellsN acc).drop (0 + E.1[k].bits.toNat * 5 + ([Value.int .i64 ya, .int .i64 yb', .int .i64 yc', .int .i64 yd, .int .i64 yk]).length) = cellsN (acc.set E.1[k].bits.toNat ((⟨ya, yb', yc', yd⟩ : P4), yk)) := cellsN_set acc _ ((⟨ya, yb', yc', yd⟩ : P4), yk) hbn
      rw [hset]
      refine if_intro (fun hx => ?_) (fun hx => ?_)
      · have hy0 : ye ≠ 0 := neq_of hx
        conv => whnf
        rw [if_pos (show ((((⟨ya, yb', yc', yd⟩ : P4), yk), ye) : (P4 × Int) × Int).2 ≠ 0 from hy0)] at hst0
        refine ⟨(i1, ins i2 bb (.cells ⟨cellsN (acc.set E.1[k].bits.toNat ((⟨ya, yb', yc', yd⟩ : P4), yk))⟩ 32 (0, 0)), acc, ye), .inr ⟨⟨rfl, hbad ye hy0 hst0, hy0⟩, rfl⟩, (ins_ne _ _ (Ne.symm hbl)).trans hl, rfl, ?_⟩
        conv => whnf
        repeat (refine ⟨rfl, ?_⟩; conv => whnf)
        exact trivial
      · have hy0 : ye = 0 := eq_of_neq hx
        subst hy0
        rw [if_neg (by simp)] at hst0
        rw [hst0] at hL2
        rw [hst0, if_neg (by simp)] at hpi
        conv => whnf
        refine ⟨(Hd, ins i2 bb (.cells ⟨cellsN (acc.set E.1[k].bits.toNat ((⟨ya, yb', yc', yd⟩ : P4), yk))⟩ 32 (0, 0)), acc.set E.1[k].bits.toNat ((⟨ya, yb', yc', yd⟩ : P4), yk), 0), .inl ⟨rfl, ⟨rfl, hk, a3.trans (hsp.trans (sc.trans (s54.trans sd))), ⟨om, (ins_ne _ _ hbmb).trans a4, a4'.up (sc.trans (s54.trans sd))⟩, ins_same _ _ _, by rw [List.length_set]; exact hli, hL2 rfl, hpi⟩, rfl⟩, (ins_ne _ _ (Ne.symm hbl)).trans hl, rfl, ?_⟩
        conv => whnf
        repeat (refine ⟨rfl, ?_⟩; conv => whnf)
        exact trivial
    · have hx0 : xe ≠ 0 := ne_of_beq_false hx
      have hst0 : bstep acc E.1[k] = ([], xe) := by
        unfold bstep
        rw [hN, if_pos hx0]
      conv => whnf
      refine if_intro (fun hx => ?_) (fun hx => ?_)
      · conv => whnf
        refine ⟨(i1, i2, acc, xe), .inr ⟨⟨rfl, hbad xe hx0 hst0, hx0⟩, rfl⟩, hl, rfl, ?_⟩
        conv => whnf
        repeat (refine ⟨rfl, ?_⟩; conv => whnf)
        exact trivial
      · exact absurd (eq_of_neq hx) hx0
  · rintro ⟨i1, i2, acc, i4⟩ H' hs' ⟨a1, a2, a3, a4, a5, hli, haL, hpi⟩ hsp
    dsimp only at a1 a2 a3 a4 a5 hli haL hpi hsp
    subst a1
    have hE2 : E.2 = 0 := by
      rw [ys_len] at a2
      by_cases h : E.2 ≠ 0
      · rw [if_pos h] at a2; omega
      · simpa using h
    have hlen : (ysOf E).length = E.1.length := by rw [ys_len, if_neg (by rw [hE2]; simp), Nat.add_zero]
    rw [hlen, List.drop_length] at hpi
    have hbe : bitsE E m = (acc, 0) := by
      unfold bitsE
      rw [← hs, hpi]
      show (if (0 : Int) ≠ 0 then _ else _) = _
      rw [if_neg (by simp), if_neg (by rw [hE2]; simp)]
      rfl
    conv => whnf
    rw [hbe]
    exact ⟨_, rfl, vec_own' a5 hli.symm⟩
  · rintro x ⟨i1, i2, acc, i4⟩ H' hs' ⟨rfl, a1, a2⟩
    dsimp only at a1
    conv => whnf
    rw [a1]
    exact OutVO.bad
theorem d18 (c : Ct) (v : Vec) (gs : Value) (hfit : c.fit) (hv : v.length ≤ 100000) (H : PH) (y : Value) (hx : GatesH H gs c.gates) (hy : NumH H y v) : Cl Tryz.prog 18 [cv c gs, y] H emp fun r H' _ => OutVH H' r (bitsR c v) := Cl.outV (d18o c v gs hfit hv H y hx hy)
end Go.Proofs.YtmhnalikebkhjaaGreatDoor


namespace Go.Proofs.YtmhnalikebkhjaaGreatDoor
open Go.Proofs.YtmhnalikebkhjaaGreatDoor.X Go.Proofs.YtmhnalikebkhjaaGreatDoor.X.PH
set_option maxRecDepth 100000

theorem d64 (x : Int) (H : PH) : Cl Tryz.prog 64 [.int .i64 x] H emp fun r _ _ => r = .bool (is01 x) := by
  refine Cl_of (pol := polL) Γok Tryz.func64 (by kernel_rfl) rfl ?_
  conv => whnf
  refine if_intro (fun h => ?_) (fun h => ?_)
  · conv => whnf
    unfold is01
    rw [show (x == 0) = true from h]
    rfl
  · conv => whnf
    unfold is01
    rw [show (x == 0) = false from h]
    rfl
theorem addr_add (b off n : Nat) : (⟨b, off, none⟩ : Addr).add n = ⟨b, off + n, none⟩ := by
  unfold Addr.add
  split
  · rename_i h; rw [h] <;> rfl
  · rfl
theorem d65 (l lp : List Int) (k : Nat) (hk : k < l.length) (hlp : lp.length = 8) (hl : l.length ≤ 100000) (H : PH) (b : Nat) (u : Value) (hb : ∃ t fr, H b = some (.cells ⟨[u]⟩ t fr)) (hu : IntsC H u l) : Cl Tryz.prog 65 [pv lp k, adr b] H emp fun r H' _ => IntsH H' r [l.getD k 0] := by
  obtain ⟨ub, uc, rfl, huc, hu2⟩ := hu
  obtain ⟨t, fr, hb⟩ := hb
  obtain ⟨a0, a1, a2, a3, a4, a5, a6, a7, rfl⟩ := eight hlp
  refine Cl_of (pol := polL) Γok Tryz.func65 (by kernel_rfl) rfl ?_
  conv => whnf
  intro b2
  conv => whnf
  refine ⟨_, Rd.anyO (O := emp) ⟨rfl, rfl, _, _, _, .inl hb, rfl⟩, ?_⟩
  conv => whnf
  rw [wrap_id (n := (k : Int) + 1) (by omega) (by omega)]
  refine dec_intro (by omega) ?_
  conv => whnf
  refine dec_intro (by omega) ?_
  conv => whnf
  have e2 : ((k : Int) + 1).toNat - k = 1 := by omega
  rw [Int.toNat_natCast, e2, if_neg (by omega)]
  obtain ⟨_, _, e, hu3⟩ := hu2
  cases e
  rcases hu3 with ⟨h0, _⟩ | ⟨bu, off, cc, t', fr', rfl, h1, h2⟩
  · omega
  · refine ⟨some ⟨bu, off + k * 1, none⟩, uc - k, congrArg (fun x => Value.slice (some x) 1 (uc - k)) (addr_add bu off (k * 1)), .inr ⟨bu, off + k * 1, cc, t', fr', rfl, h1, ?_⟩⟩
    have h3 := congrArg (fun x : List Value => (x.drop k).take 1) h2
    rw [List.drop_take, List.drop_drop, List.take_take, List.length_map] at h3
    rw [Nat.mul_one, List.length_map, List.length_singleton]
    have e3 : min 1 (l.length - k) = 1 := by omega
    rw [e3] at h3
    rw [h3, ← List.map_drop, ← List.map_take]
    congr 1
    rw [List.drop_eq_getElem_cons hk, List.getD_eq_getElem?_getD, List.getElem?_eq_getElem hk]
    rfl
theorem OutB.bad {H : PH} {e : Int} : OutB H (.tuple #[.agg ⟨[.slice none 0 0, .int .i64 0, .slice none 0 0]⟩, .int .i64 e]) (br0, e) := ⟨_, rfl, _, _, rfl, IntsC.nil H, nilV H⟩
theorem d14 (c : Ct) (v : Vec) (l : List Int) (hfit : c.fit) (hv : v.length ≤ 100000) (hl : l.length ≤ 100000) (H : PH) (x y z : Value) (hx : CircH H x c) (hy : NumH H y v) (hz : IntsH H z l) : Cl Tryz.prog 14 [x, y, z] H emp fun r H' _ => OutB H' r (alongR c v l) := by
  obtain ⟨gb, gc, rfl, hg⟩ := hx.sl
  obtain ⟨yb, yc, rfl, _⟩ := id hy
  obtain ⟨zb, zc, rfl, _⟩ := id hz
  have hlen := hfit.1
  refine Cl_of (pol := polL) Γok Tryz.func14 (by kernel_rfl) rfl ?_
  conv => whnf
  intro b3
  conv => whnf
  intro b6
  conv => whnf
  refine (d54 c v hfit (by omega) _ _ _ ⟨_, rfl, hg⟩ hy).val fun Ha sa => ?_
  conv => whnf
  refine if_intro (fun h => ?_) (fun h => ?_)
  · conv => whnf
    rw [show alongR c v l = (br0, beginErr c v) from if_pos (neq_of h)]
    exact OutB.bad
  have he : beginErr c v = 0 := eq_of_neq h
  obtain ⟨n, m, hok⟩ := run_ok he
  have n6 := hok.n6
  have m8 := hok.m8
  have hfew := hok.few
  obtain ⟨p1, p2⟩ := pow6 n6
  conv => whnf
  refine (d57 c hfit _ _ ⟨_, rfl, hg.up sa⟩).val fun Hb sb => ?_
  replace sb := sa.trans sb
  conv => whnf
  refine if_intro (fun h => ?_) (fun h => ?_)
  · conv => whnf
    rw [show alongR c v l = (br0, 2) by
      unfold alongR
      rw [if_neg (by rw [he]; simp), if_pos (fun e => neq_of h (by rw [e]))]]
    exact OutB.bad
  have hll : l.length = foundN c.gates := by
    have := eq_of_neq h
    omega
  conv => whnf
  refine W_loop (pol := polL) Γok (Nat × PH) (fun i => i.1 ≤ l.length ∧ Sub Hb i.2 ∧ (l.take i.1).all is01 = true) (fun i => l.length - i.1) (fun i => [(9, .v (.int .i64 i.1))]) (fun _ => []) (fun i => i.2) (fun _ => emp) ⟨(0, Hb), ⟨by simp, Sub.refl _, rfl⟩, rfl, rfl, ?_⟩ ?_
  · conv => whnf
    repeat (refine ⟨rfl, ?_⟩; conv => whnf)
    exact trivial
  rintro ⟨i, Hi⟩ ⟨h1i, hsi, hpi⟩
  dsimp only at h1i hsi hpi
  conv => whnf
  refine if_intro (fun hci => ?_) (fun hci => ?_)
  · have hii : i < l.length := by
      have := of_decide_eq_true hci
      omega
    have hall : is01 l[i] = false → alongR c v l = (br0, 3) := fun h => by
      unfold alongR
      rw [if_neg (by rw [he]; simp), if_neg (by simpa using hll), if_pos]
      exact List.all_eq_false.2 ⟨l[i], List.getElem_mem hii, by rw [h]; simp⟩
    obtain ⟨ob, ooff, rfl, hro⟩ := (IntsH.up hz (sb.trans hsi)).rd hii
    conv => whnf
    refine dec_intro (by omega) ?_
    conv => whnf
    refine ⟨_, hro _, ?_⟩
    conv => whnf
    refine if_intro (fun h1 => ?_) (fun h1 => ?_)
    · conv => whnf
      have : l[i] < 0 := of_decide_eq_true h1
      rw [hall (by unfold is01; rw [beq_eq_false_iff_ne.2 (by omega), beq_eq_false_iff_ne.2 (by omega)] <;> rfl)]
      exact OutB.bad
    have h1 : ¬ l[i] < 0 := of_decide_eq_false h1
    conv => whnf
    refine dec_intro (by omega) ?_
    conv => whnf
    refine ⟨_, hro _, ?_⟩
    conv => whnf
    refine if_intro (fun h2 => ?_) (fun h2 => ?_)
    · conv => whnf
      have : l[i] > 1 := of_decide_eq_true h2
      rw [hall (by unfold is01; rw [beq_eq_false_iff_ne.2 (by omega), beq_eq_false_iff_ne.2 (by omega)] <;> rfl)]
      exact OutB.bad
    have h2 : ¬ l[i] > 1 := of_decide_eq_false h2
    conv => whnf
    refine ⟨(i + 1, Hi), ⟨hii, hsi, ?_⟩, by dsimp only; omega, ?_⟩
    · rw [List.take_succ_eq_append_getElem hii, List.all_append, hpi]
      have : l[i] = 0 ∨ l[i] = 1 := by omega
      rcases this with e | e <;> rw [e] <;> rfl
    refine ⟨rfl, rfl, ?_⟩
    conv => whnf
    repeat (refine ⟨rfl, ?_⟩; conv => whnf)
    refine ⟨by show En.v (.int .i64 (IntKind.i64.wrap (i + 1))) = _; rw [wrap_id (by omega) (by omega)] <;> rfl, ?_⟩
    conv => whnf
    repeat (refine ⟨rfl, ?_⟩; conv => whnf)
    exact trivial
  have hii : i = l.length := by
    have := of_decide_eq_false hci
    omega
  subst hii
  rw [List.take_length] at hpi
  replace hsi := sb.trans hsi
  have hA : alongR c v l = if (stepsB l c.gates (startB v)).2 ≠ 0 then (br0, (stepsB l c.gates (startB v)).2)
    else if deadB (stepsB l c.gates (startB v)).1.state = true then (br0, 6) else ((stepsB l c.gates (startB v)).1, 0) := by
    unfold alongR
    rw [if_neg (by rw [he]; simp), if_neg (by simpa using hll), if_neg (by rw [hpi]; simp)]
  rw [hA]
  conv => whnf
  refine (d56 v hv hok.right _ _ (NumH.up hy hsi)).use fun r Hc sc hr => ?_
  obtain ⟨_, hr⟩ := hr
  obtain ⟨rb, rc, rfl, _⟩ := id hr
  replace sc := hsi.trans sc
  conv => whnf
  intro b10
  conv => whnf
  refine W_loop (pol := polL) Γok (Nat × PH × Br × Value × Value) (fun i => i.1 ≤ c.gates.length ∧ Sub Hc i.2.1 ∧ BrOK i.2.2.1 n i.1 ∧ IntsC i.2.1 i.2.2.2.1 i.2.2.1.outs ∧ NumH i.2.1 i.2.2.2.2 i.2.2.1.state ∧ stepsB l c.gates (startB v) = stepsB l (c.gates.drop i.1) i.2.2.1) (fun i => c.gates.length - i.1) (fun i => [(11, .v (.int .i64 i.1))]) (fun i => [(2, [i.2.2.2.1, .int .i64 i.2.2.1.bits, i.2.2.2.2])]) (fun i => i.2.1) (fun _ => emp) ⟨(0, Hc, startB v, .slice none 0 0, .slice rb (leastV v).length rc), ⟨Nat.zero_le _, Sub.refl _, hok.start, IntsC.nil _, hr, by rw [List.drop_zero]⟩, rfl, rfl, ?_⟩ ?_
  · conv => whnf
    repeat (refine ⟨rfl, ?_⟩; conv => whnf)
    exact trivial
  rintro ⟨i, Hi, bi, ov, sv⟩ ⟨h1i, hsi2, hbi, hov, hsv, hst⟩
  dsimp only at h1i hsi2 hbi hov hsv hst
  obtain ⟨ovb, ovc, rfl, hovc, hov2⟩ := id hov
  obtain ⟨svb, svc, rfl, _⟩ := id hsv
  have hgl : c.gates.length ≤ 120 := hok.len
  have hbo := hbi.outs
  conv => whnf
  refine if_intro (fun hci => ?_) (fun hci => ?_)
  · have hii : i < c.gates.length := by
      have := of_decide_eq_true hci
      omega
    have hg1 := hok.gates _ (List.getElem_mem hii)
    rw [stepsB_at hii] at hst
    obtain ⟨gbb, goff, w, wb, wc, rfl, hw, hrd, hwe⟩ := (hg.up sc).rd hii
    subst hw
    conv => whnf
    refine if_intro (fun hk => ?_) (fun hk => ?_)
    · have hkk : bi.outs.length < l.length := by
        have := of_decide_eq_true hk
        omega
      obtain ⟨ob, ooff, rfl, hro⟩ := (IntsH.up hz (sc.trans hsi2)).rd hkk
      have eo : l.getD bi.outs.length 0 = l[bi.outs.length] := by rw [List.getD_eq_getElem?_getD, List.getElem?_eq_getElem hkk] <;> rfl
      have ho01 : l[bi.outs.length] = 0 ∨ l[bi.outs.length] = 1 := by
        have := List.all_eq_true.1 hpi _ (List.getElem_mem hkk)
        unfold is01 at this
        simpa using this
      rw [eo] at hst
      conv => whnf
      refine dec_intro (by omega) ?_
      conv => whnf
      refine ⟨_, hro _, ?_⟩
      conv => whnf
      refine W_draw (pol := polL) Γok mixes [(0, .pendO), (1, .pendO), (2, .pendO), (3, .pendO), (4, .pendO), (5, .pendO), (6, .pendO), (7, .lock), (8, .pendO), (9, .pendO), (10, .pendH), (11, .late), (12, .lock), (13, .pendO)] 90 (by kernel_rfl) rfl ?_
      conv => whnf
      refine dec_intro (by omega) ?_
      conv => whnf
      refine ⟨_, hrd _ _ hsi2, ?_⟩
      conv => whnf
      refine (d58 bi c.gates[i] l[bi.outs.length] n m hg1 ho01 hbi.len hbi.chk (by omega) _ _ _ ⟨_, _, rfl, hov, hsv⟩ (hwe.up hsi2)).use fun r Hd sd hr2 => ?_
      obtain ⟨_, u, rfl, ov2, sv2, rfl, hov2, hsv2⟩ := hr2
      obtain ⟨ov2b, ov2c, rfl, _⟩ := id hov2
      obtain ⟨sv2b, sv2c, rfl, _⟩ := id hsv2
      conv => whnf
      intro b14
      conv => whnf
      refine if_intro (fun h => ?_) (fun h => ?_)
      · conv => whnf
        rw [hst, if_pos (neq_of h), if_pos (neq_of h)]
        exact OutB.bad
      have hne : (nextB bi c.gates[i] l[bi.outs.length]).2 = 0 := eq_of_neq h
      rw [if_neg (by rw [hne]; simp)] at hst
      conv => whnf
      refine ⟨(i + 1, Hd, (nextB bi c.gates[i] l[bi.outs.length]).1, _, _), ⟨hii, hsi2.trans sd, hbi.next hne, hov2, hsv2, hst⟩, by dsimp only; omega, ?_⟩
      refine ⟨rfl, rfl, ?_⟩
      conv => whnf
      repeat (refine ⟨rfl, ?_⟩; conv => whnf)
      refine ⟨by show En.v (.int .i64 (IntKind.i64.wrap (i + 1))) = _; rw [wrap_id (by omega) (by omega)] <;> rfl, ?_⟩
      conv => whnf
      repeat (refine ⟨rfl, ?_⟩; conv => whnf)
      exact trivial
    · have hkk : ¬ bi.outs.length < l.length := by
        have := of_decide_eq_false hk
        omega
      have eo : l.getD bi.outs.length 0 = 0 := by rw [List.getD_eq_getElem?_getD, List.getElem?_eq_none (by omega)] <;> rfl
      rw [eo] at hst
      have ho01 : (0 : Int) = 0 ∨ (0 : Int) = 1 := .inl rfl
      conv => whnf
      refine W_draw (pol := polL) Γok mixes [(0, .pendO), (1, .pendO), (2, .pendO), (3, .pendO), (4, .pendO), (5, .pendO), (6, .pendO), (7, .lock), (8, .pendO), (9, .pendO), (10, .pendH), (11, .late), (12, .lock), (13, .pendO)] 90 (by kernel_rfl) rfl ?_
      conv => whnf
      refine dec_intro (by omega) ?_
      conv => whnf
      refine ⟨_, hrd _ _ hsi2, ?_⟩
      conv => whnf
      refine (d58 bi c.gates[i] 0 n m hg1 ho01 hbi.len hbi.chk (by omega) _ _ _ ⟨_, _, rfl, hov, hsv⟩ (hwe.up hsi2)).use fun r Hd sd hr2 => ?_
      obtain ⟨_, u, rfl, ov2, sv2, rfl, hov2, hsv2⟩ := hr2
      obtain ⟨ov2b, ov2c, rfl, _⟩ := id hov2
      obtain ⟨sv2b, sv2c, rfl, _⟩ := id hsv2
      conv => whnf
      intro b14
      conv => whnf
      refine if_intro (fun h => ?_) (fun h => ?_)
      · conv => whnf
        rw [hst, if_pos (neq_of h), if_pos (neq_of h)]
        exact OutB.bad
      have hne : (nextB bi c.gates[i] 0).2 = 0 := eq_of_neq h
      rw [if_neg (by rw [hne]; simp)] at hst
      conv => whnf
      refine ⟨(i + 1, Hd, (nextB bi c.gates[i] 0).1, _, _), ⟨hii, hsi2.trans sd, hbi.next hne, hov2, hsv2, hst⟩, by dsimp only; omega, ?_⟩
      refine ⟨rfl, rfl, ?_⟩
      conv => whnf
      repeat (refine ⟨rfl, ?_⟩; conv => whnf)
      refine ⟨by show En.v (.int .i64 (IntKind.i64.wrap (i + 1))) = _; rw [wrap_id (by omega) (by omega)] <;> rfl, ?_⟩
      conv => whnf
      repeat (refine ⟨rfl, ?_⟩; conv => whnf)
      exact trivial
  have hii : i = c.gates.length := by
    have := of_decide_eq_false hci
    omega
  subst hii
  rw [List.drop_length] at hst
  rw [hst, if_neg (show ¬ (stepsB l [] bi).2 ≠ 0 by simp [stepsB])]
  have es : stepsB l [] bi = (bi, 0) := rfl
  rw [es]
  conv => whnf
  refine (d59 bi.state (by rw [hbi.len]; omega) hbi.chk _ _ hsv).val fun Hd sd => ?_
  conv => whnf
  refine if_intro (fun hd => ?_) (fun hd => ?_)
  · conv => whnf
    rw [if_pos (show deadB ((bi, (0 : Int)).1).state = true from hd)]
    exact OutB.bad
  · conv => whnf
    rw [if_neg (show ¬ deadB ((bi, (0 : Int)).1).state = true from fun h => by rw [show deadB bi.state = false from hd] at h; cases h)]
    exact ⟨_, rfl, _, _, rfl, hov.up sd, NumH.up hsv sd⟩
end Go.Proofs.YtmhnalikebkhjaaGreatDoor


namespace Go.Proofs.YtmhnalikebkhjaaGreatDoor
open Go.Proofs.YtmhnalikebkhjaaGreatDoor.X Go.Proofs.YtmhnalikebkhjaaGreatDoor.X.PH
set_option maxRecDepth 100000

def OutN (H0 H : PH) (r : Value) (x : Br × Int) : Prop := ∃ c, r = .tuple #[.agg ⟨c⟩, .int .i64 x.2] ∧ BrCN H0 H x.1 c
theorem OutN.bad {H0 H : PH} {e : Int} : OutN H0 H (.tuple #[.agg ⟨[.slice none 0 0, .int .i64 0, .slice none 0 0]⟩, .int .i64 e]) (br0, e) := ⟨_, rfl, _, _, rfl, ⟨by simp [br0], .inl ⟨rfl, rfl⟩⟩, nilW H0 H⟩
theorem along_ys {c : Ct} {v : Vec} {n m : Nat} {l : List Int} (h : RunOK c v n m) : evG true (fun k => [l.getD k 0]) c.gates (startB v) = if (stepsB l c.gates (startB v)).2 ≠ 0 then ([], (stepsB l c.gates (startB v)).2) else ([(stepsB l c.gates (startB v)).1], 0) := evG_along l c.gates (startB v) 0 h.gates h.start
theorem steps_ok {n m : Nat} (l : List Int) : ∀ (gs : List Gt) (b : Br) (i : Nat), (∀ g ∈ gs, RGate g n m) → BrOK b n i → (stepsB l gs b).2 = 0 → (stepsB l gs b).1.state.length = 2 ^ n ∧ ∀ x ∈ (stepsB l gs b).1.state, IsL x
  | [], b, i, _, hb, _ => ⟨hb.len, hb.right⟩
  | g :: gs, b, i, hgs, hb, he => by
    unfold stepsB at he ⊢
    by_cases hn : (nextB b g (l.getD b.outs.length 0)).2 ≠ 0
    · rw [if_pos hn] at he; exact absurd he hn
    · rw [if_neg hn] at he ⊢
      exact steps_ok l gs _ (i + 1) (fun g' h => hgs g' (List.mem_cons_of_mem _ h)) (hb.next (by simpa using hn)) he
theorem not_false {b : Bool} (h : (!b) = false) : b = true := by cases b <;> simp_all
theorem eq_self8 (a0 a1 a2 a3 a4 a5 a6 a7 : Int) : eqCells [.int .i64 a0, .int .i64 a1, .int .i64 a2, .int .i64 a3, .int .i64 a4, .int .i64 a5, .int .i64 a6, .int .i64 a7] [.int .i64 a0, .int .i64 a1, .int .i64 a2, .int .i64 a3, .int .i64 a4, .int .i64 a5, .int .i64 a6, .int .i64 a7] = true := by
  simp [eqCells]
set_option maxHeartbeats 4000000 in
theorem d17 (c : Ct) (v : Vec) (l : List Int) (gs : Value) (hfit : c.fit) (hv : v.length ≤ 100000) (hl : l.length ≤ 100000) (H : PH) (y z : Value) (hx : GatesH H gs c.gates) (hy : NumH H y v) (hz : IntsC H z l) : Cl Tryz.prog 17 [cv c gs, y, z] H emp fun r H' _ => OutN H H' r (alongR c v l) := by
  have hg := hx
  obtain ⟨gb, gc, rfl⟩ := hx.sl
  obtain ⟨yb, yc, rfl, _⟩ := id hy
  obtain ⟨zb, zc, rfl, _⟩ := id hz
  refine Cl_of (pol := (fun | 5 => .imm | _ => .loc)) Γok Tryz.func17 (by kernel_rfl) rfl ?_
  conv => whnf
  intro b3
  conv => whnf
  intro b5 hb5 hO5
  conv => whnf
  have s5 := sub_ins H (.cells ⟨[.slice zb l.length zc]⟩ 26 (0, 0)) hb5
  intro b6
  conv => whnf
  intro b7
  conv => whnf
  refine (d61 c v (.slice gb c.gates.length gc) hfit hv _ _ (hg.up s5) (NumH.up hy s5)).mono fun r Ha Ma sa hr => ?_
  have sa5 := sa _ _ (ins_same H b5 (.cells ⟨[.slice zb l.length zc]⟩ 26 (0, 0)))
  replace sa := s5.trans sa
  rcases hr with ⟨he, rfl⟩ | ⟨he, bm, hbm, rfl⟩
  · conv => whnf
    intro b8
    conv => whnf
    refine if_intro (fun h => ?_) (fun h => ?_)
    · conv => whnf
      rw [show alongR c v l = (br0, beginErr c v) from if_pos he]
      exact OutN.bad
    · exact absurd (eq_of_neq h) he
  obtain ⟨n, m, hok⟩ := run_ok he
  have n6 := hok.n6
  have hfew := hok.few
  obtain ⟨p1, p2⟩ := pow6 n6
  conv => whnf
  intro b8
  conv => whnf
  refine if_intro (fun h => ?_) (fun h => ?_)
  · conv => whnf
    rw [show alongR c v l = (br0, 2) by
      unfold alongR
      rw [if_neg (by rw [he]; simp), if_pos (fun e => neq_of h (by rw [e]))]]
    exact OutN.bad
  have hll : l.length = foundN c.gates := by
    have := eq_of_neq h
    omega
  conv => whnf
  refine (d63 l is01 _ _ _ _ _ (hz.up sa).h (fun x _ => ⟨64, [], [], rfl, fun H' _ => d64 x H'⟩) (by omega)).val fun Hb sb => ?_
  conv => whnf
  refine if_intro (fun h => ?_) (fun h => ?_)
  · conv => whnf
    rw [show alongR c v l = (br0, 3) by
      unfold alongR
      rw [if_neg (by rw [he]; simp), if_neg (by simpa using hll), if_pos (not_true h)]]
    exact OutN.bad
  have hpi : l.all is01 = true := not_false h
  have hA : alongR c v l = if (stepsB l c.gates (startB v)).2 ≠ 0 then (br0, (stepsB l c.gates (startB v)).2)
    else if deadB (stepsB l c.gates (startB v)).1.state = true then (br0, 6) else ((stepsB l c.gates (startB v)).1, 0) := by
    unfold alongR
    rw [if_neg (by rw [he]; simp), if_neg (by simpa using hll), if_neg (by rw [hpi]; simp)]
  rw [hA]
  have hys := along_ys (l := l) hok
  have hso := steps_outs l c.gates (startB v) 0 rfl (by omega)
  have hsk := steps_ok l c.gates (startB v) 0 hok.gates hok.start
  have hch : ∀ k, k < 8 → ([l.getD k 0]).length ≤ 2 ∧ ∀ o ∈ [l.getD k 0], o = 0 ∨ o = 1 := fun k _ => ⟨by simp, fun o ho => by
    rw [List.mem_singleton] at ho
    subst ho
    by_cases hk : k < l.length
    · rw [List.getD_eq_getElem?_getD, List.getElem?_eq_getElem hk]
      have := List.all_eq_true.1 hpi _ (List.getElem_mem hk)
      unfold is01 at this
      simpa using this
    · rw [List.getD_eq_getElem?_getD, List.getElem?_eq_none (by omega)]
      exact .inl rfl⟩
  conv => whnf
  have sb0 := sb
  replace sb := sa.trans sb
  refine (d62n c n m v hok (.slice gb c.gates.length gc) (.slice yb v.length yc) 65 [adr b5] bm true (fun k => [l.getD k 0]) hch _ (NumH.up hy sb) (hg.up sb) (fun lp os h1 h2 => ⟨65, [], [adr b5], rfl, fun H' hs => ?_⟩)).use fun it Hc sc hit => ?_
  · refine (d65 l lp os.length (by omega) h1.len hl H' b5 _ ⟨_, _, hs _ _ (sb0 _ _ sa5)⟩ ((hz.up sb).up hs)).mono fun r H'' _ _ h => h
  obtain ⟨_, hit⟩ := hit
  conv => whnf
  have hit : IterN Tryz.prog bm OpsI Hc it (ysOf (evG true (fun k => [l.getD k 0]) c.gates (startB v))) BrN := hit
  rw [hys] at hit
  clear hys hA
  generalize stepsB l c.gates (startB v) = S at hit hso hsk ⊢
  refine W_rangeN (pol := (fun | 5 => .imm | _ => .loc)) Γok _ BrN hit (PH × PH × Int × List Value)
    (fun k i H' => i.2.2.1 = 0 ∧ i.2.2.2 = [.slice none 0 0, .int .i64 0, .slice none 0 0] ∧ Sub Hc i.1 ∧ (∃ o, i.2.1 bm = some o ∧ OpsI H' o) ∧ (0 < k → S.2 = 0 ∧ deadB S.1.state = true))
    (fun x i H' => x = .ret ∧ ∃ y : Br × Int, BrCN H H' y.1 i.2.2.2 ∧ y.2 = i.2.2.1 ∧ y = if S.2 ≠ 0 then (br0, S.2) else if deadB S.1.state = true then (br0, 6) else (S.1, 0))
    (fun i => [(2, i.2.2.2), (3, [.int .i64 i.2.2.1])]) (fun i => i.2.1) (fun i => i.1) ?_ ?_ ?_ ?_ ⟨(Hc, Ma, 0, _), ⟨rfl, rfl, Sub.refl _, ⟨_, hbm, OpsI.nil _⟩, fun h => by omega⟩, rfl, rfl, ?_⟩ ?_ ?_ ?_
  · rintro k i H1 H2 hs ⟨a1, a2, a3, ⟨o, a4, a5⟩, a6⟩
    exact ⟨a1, a2, a3, ⟨o, a4, a5.up hs⟩, a6⟩
  · rintro x i H1 H2 hs ⟨h, y, h1, h2⟩
    exact ⟨h, y, h1.up hs, h2⟩
  · rintro k i H' ⟨a1, a2, a3, a4, a5⟩
    exact a4
  · rintro k ⟨i1, i2, i3, i4⟩ H' o ⟨a1, a2, a3, ⟨o', a4, a4'⟩, a5⟩ ho
    exact ⟨(i1, ins i2 bm o, i3, i4), ⟨a1, a2, a3, ⟨o, ins_same _ _ _, ho⟩, a5⟩, rfl, rfl, rfl⟩
  · conv => whnf
    repeat (refine ⟨rfl, ?_⟩; conv => whnf)
  · rintro k y hyk x ⟨i1, i2, i3, i4⟩ H' hs' ⟨a1, a2, a3, ⟨om, a4, a4'⟩, a5⟩ hsp ⟨ov, sv, rfl, hov, hsv⟩ w o o' hl'
    dsimp only at a1 a2 a3 a4 a5 hsp hov hsv hl'
    subst a1 a2
    obtain ⟨ovb, ovc, rfl, _⟩ := IntsW.c hov
    obtain ⟨svb, svc, rfl, _⟩ := NumW.num hsv
    conv => whnf
    intro b11
    conv => whnf
    refine ⟨rfl, ?_⟩
    conv => whnf
    refine ⟨i2, rfl, ?_⟩
    conv => whnf
    refine if_intro (fun h => ?_) (fun h => ?_)
    · have hy2 : y.2 ≠ 0 := neq_of h
      have hS : S.2 ≠ 0 ∧ y = (br0, S.2) := by
        by_cases h2 : S.2 ≠ 0
        · rw [if_pos h2] at hyk
          rcases ys_at hyk with ⟨hk, _⟩ | ⟨_, _, e⟩
          · exact absurd hk (by simp)
          · exact ⟨h2, e⟩
        · rw [if_neg h2] at hyk
          rcases ys_at hyk with ⟨hk, e⟩ | ⟨_, e, _⟩
          · rw [e] at hy2; exact absurd rfl hy2
          · exact absurd rfl e
      obtain ⟨hS, rfl⟩ := hS
      conv => whnf
      refine ⟨(i1, i2, S.2, [.slice none 0 0, .int .i64 0, .slice none 0 0]), .inr ⟨⟨rfl, (br0, S.2), ⟨_, _, rfl, ⟨by simp [br0], .inl ⟨rfl, rfl⟩⟩, nilW H _⟩, rfl, (if_pos hS).symm⟩, rfl⟩, hl', rfl, ?_⟩
      conv => whnf
      repeat (refine ⟨rfl, ?_⟩; conv => whnf)
      exact trivial
    have hy2 : y.2 = 0 := eq_of_neq h
    have hS : S.2 = 0 ∧ y = (S.1, 0) := by
      by_cases h2 : S.2 ≠ 0
      · rw [if_pos h2] at hyk
        rcases ys_at hyk with ⟨hk, _⟩ | ⟨_, _, e⟩
        · exact absurd hk (by simp)
        · rw [e] at hy2; exact absurd hy2 h2
      · rw [if_neg h2] at hyk
        rcases ys_at hyk with ⟨hk, e⟩ | ⟨_, e, _⟩
        · have : k = 0 := by simpa using hk
          subst this
          exact ⟨by simpa using h2, e⟩
        · exact absurd rfl e
    obtain ⟨hS, rfl⟩ := hS
    have ho := hso hS
    obtain ⟨k1, k2⟩ := hsk hS
    dsimp only at hov hsv
    have hl8 : l.length ≤ 8 := by omega
    have ho66 : IntsH H' (.slice ovb S.1.outs.length ovc) l := by
      have := (IntsW.c hov).h
      rw [ho] at this
      rw [ho]
      exact this
    obtain ⟨q0, q1, q2, q3, q4, q5, q6, q7, e8⟩ := eight (padI_len hl8)
    have c66 : ∀ H'' u, IntsH H'' u l → Cl Tryz.prog 66 [u] H'' emp fun r _ _ => r = .agg ⟨[.int .i64 q0, .int .i64 q1, .int .i64 q2, .int .i64 q3, .int .i64 q4, .int .i64 q5, .int .i64 q6, .int .i64 q7]⟩ := fun H'' u hu => by
      have := d66 l hl8 H'' u hu
      rw [e8] at this
      exact this
    conv => whnf
    refine W_draw (pol := (fun | 5 => .imm | _ => .loc)) Γok mixes [(0, .pendO), (1, .pendO), (3, .pend), (2, .lock), (4, .lock), (5, .pendO), (6, .pendO), (7, .pendO), (8, .pendO), (9, .lock), (10, .pendO), (11, .pendO)] 62 (by kernel_rfl) rfl ?_
    conv => whnf
    refine (c66 _ _ ho66).val fun Hd sd => ?_
    conv => whnf
    refine (c66 _ _ (IntsH.up (hz.up (sb.trans sc)).h (hs'.trans sd))).val fun He se => ?_
    conv => whnf
    refine if_intro (fun heq => ?_) (fun heq => ?_)
    rotate_left
    · rw [show eqCells _ _ = true from eq_self8 q0 q1 q2 q3 q4 q5 q6 q7] at heq
      cases heq
    conv => whnf
    refine (d67 S.1.state (by rw [k1]; omega) k2 _ _ (NumH.up (NumW.num hsv) (sd.trans se))).val fun Hf sf => ?_
    have sdf := (sd.trans se).trans sf
    conv => whnf
    refine if_intro (fun hd => ?_) (fun hd => ?_)
    · conv => whnf
      have hd := not_true hd
      have s0 := (sb.trans sc).trans a3
      refine ⟨(i1, i2, 0, [.slice ovb S.1.outs.length ovc, .int .i64 S.1.bits, .slice svb S.1.state.length svc]), .inr ⟨⟨rfl, (S.1, 0), ⟨_, _, rfl, IntsW.base (IntsW.up hov sdf) s0, NumW.base (NumW.up hsv sdf) s0⟩, rfl, ?_⟩, rfl⟩, hl', rfl, ?_⟩
      · rw [if_neg (by rw [hS]; simp), if_neg (by rw [hd]; simp)]
      conv => whnf
      repeat (refine ⟨rfl, ?_⟩; conv => whnf)
      exact trivial
    · conv => whnf
      have hd := not_false hd
      refine ⟨(Hf, i2, 0, [.slice none 0 0, .int .i64 0, .slice none 0 0]), .inl ⟨rfl, ⟨rfl, rfl, a3.trans (hsp.trans sdf), ⟨om, a4, a4'.up sdf⟩, fun _ => ⟨hS, hd⟩⟩, rfl⟩, hl', rfl, ?_⟩
      conv => whnf
      repeat (refine ⟨rfl, ?_⟩; conv => whnf)
      exact trivial
  · rintro ⟨i1, i2, i3, i4⟩ H' hs' ⟨a1, a2, a3, a4, a5⟩ hsp
    dsimp only at a1 a2 a3 a4 a5 hsp
    subst a1 a2
    have hS : S.2 = 0 ∧ deadB S.1.state = true := by
      refine a5 ?_
      rw [ys_len]
      by_cases h2 : S.2 ≠ 0
      · rw [if_pos h2]
        show 0 < 0 + if S.2 ≠ 0 then 1 else 0
        rw [if_pos h2]
        decide
      · rw [if_neg h2]; simp
    conv => whnf
    rw [if_neg (by rw [hS.1]; simp), if_pos hS.2]
    exact OutN.bad
  · rintro x ⟨i1, i2, i3, i4⟩ H' hs' ⟨rfl, y, h1, h2, h3⟩
    dsimp only at h1 h2
    rw [← h3, ← h2]
    obtain ⟨ov, sv, rfl, h4, h5⟩ := h1
    obtain ⟨ovb, ovc, rfl, _⟩ := IntsW.c h4
    obtain ⟨svb, svc, rfl, _⟩ := NumW.num h5
    conv => whnf
    exact ⟨_, rfl, _, _, rfl, h4, h5⟩
end Go.Proofs.YtmhnalikebkhjaaGreatDoor


namespace Go.Proofs.YtmhnalikebkhjaaGreatDoor
open Go.Proofs.YtmhnalikebkhjaaGreatDoor.X Go.Proofs.YtmhnalikebkhjaaGreatDoor.X.PH
set_option maxRecDepth 100000

theorem d51 (kind : Int) (w : Value) (ws : List Int) (H : PH) (hw : IntsC H w ws) : Cl Tryz.prog 51 [.int .i64 kind, w] H emp fun r _ _ => r = gv ⟨kind, ws, 0, 0⟩ w := by
  obtain ⟨wb, wc, rfl, _⟩ := hw
  refine Cl_of (pol := polL) Γok Tryz.func51 (by kernel_rfl) rfl ?_
  conv => whnf
  intro b4
  conv => whnf
  rfl
theorem d52 (n : Int) (g : Value) (gs : List Gt) (H : PH) (hg : GatesH H g gs) : Cl Tryz.prog 52 [.int .i64 n, g] H emp fun r _ _ => r = cv ⟨n, 0, gs⟩ g := by
  obtain ⟨gb, gc, rfl⟩ := hg.sl
  refine Cl_of (pol := polL) Γok Tryz.func52 (by kernel_rfl) rfl ?_
  conv => whnf
  intro b4
  conv => whnf
  rfl
theorem d20 (a b c : Value) (ha : ∃ x y z, a = .slice x y z) (hb : ∃ k n, b = .int k n) (hc : ∃ x y z, c = .slice x y z) (H : PH) : Cl Tryz.prog 20 [.agg ⟨[a, b, c]⟩] H emp fun r _ _ => r = .agg ⟨[a, b, c]⟩ := by
  obtain ⟨_, _, _, rfl⟩ := ha
  obtain ⟨_, _, rfl⟩ := hb
  obtain ⟨_, _, _, rfl⟩ := hc
  refine Cl_of (pol := polL) Γok Tryz.func20 (by kernel_rfl) rfl ?_
  conv => whnf
  intro b1
  conv => whnf
  intro b2
  conv => whnf
def sameB (a b : Br) : Bool := decide (a.outs = b.outs) && (a.bits == b.bits) && eqL a.state b.state
theorem d19 (a b : Br) (ho : a.outs.length ≤ 100000) (hs : a.state.length ≤ 100000) (H : PH) (x y : List Value) (hx : BrC H a x) (hy : BrC H b y) : Cl Tryz.prog 19 [.agg ⟨x⟩, .agg ⟨y⟩] H emp fun r _ _ => r = .bool (sameB a b) := by
  obtain ⟨ov, sv, rfl, h1, h2⟩ := hx
  obtain ⟨ov', sv', rfl, h3, h4⟩ := hy
  have h1' := h1.h
  have h3' := h3.h
  obtain ⟨ob, oc, rfl, _⟩ := id h1
  obtain ⟨sb, sc, rfl, _⟩ := id h2
  obtain ⟨ob', oc', rfl, _⟩ := id h3
  obtain ⟨sb', sc', rfl, _⟩ := id h4
  refine Cl_of (pol := polL) Γok Tryz.func19 (by kernel_rfl) rfl ?_
  conv => whnf
  intro b2
  conv => whnf
  intro b3
  conv => whnf
  refine (c25 a.outs b.outs (by omega) _ _ _ h1' h3').val fun Ha sa => ?_
  conv => whnf
  unfold sameB
  refine if_intro (fun h => ?_) (fun h => ?_)
  · conv => whnf
    refine if_intro (fun hb => ?_) (fun hb => ?_)
    · conv => whnf
      refine (c48 a.state b.state _ _ _ (NumH.up h2 sa) (NumH.up h4 sa) (by omega)).val fun Hb sb => ?_
      conv => whnf
      rw [h, show (a.bits == b.bits) = true from hb]
      rfl
    · conv => whnf
      rw [h, show (a.bits == b.bits) = false from hb]
      rfl
  · conv => whnf
    rw [h]
    rfl
def smallB (c : Ct) (n : Nat) : Bool := !greatC c && (decide (c.wires < 5) || ((n : Int) != shlI 1 (if 6 < c.wires then 6 else c.wires))) && decide ((n : Int) ≤ 66)
theorem d8 (c : Ct) (v : Vec) (hc : c.gates.length < 9223372036854775808) (H : PH) (x y : Value) (hx : CircH H x c) (hy : NumH H y v) : Cl Tryz.prog 8 [x, y] H emp fun r _ _ => r = .bool (smallB c v.length) := by
  obtain ⟨gb, gc, rfl, hg⟩ := hx.sl
  obtain ⟨yb, yc, rfl, _⟩ := id hy
  refine Cl_of (pol := polL) Γok Tryz.func8 (by kernel_rfl) rfl ?_
  conv => whnf
  intro b2
  conv => whnf
  refine (d31 c hc _ _ ⟨_, rfl, hg⟩).val fun Ha sa => ?_
  unfold smallB
  generalize greatC c = G
  conv => whnf
  refine if_intro (fun h => ?_) (fun h => ?_)
  · have hG : G = false := not_true h
    subst hG
    conv => whnf
    refine if_intro (fun h5 => ?_) (fun h5 => ?_)
    · conv => whnf
      rw [h5]
      rfl
    · have h5' : ¬ c.wires < 5 := of_decide_eq_false h5
      have e1 : (if 6 < c.wires then (6 : Int) else c.wires) ≥ 0 := by split <;> omega
      rw [h5, Bool.false_or]
      conv => whnf
      refine dec_intro e1 ?_
      generalize (if 6 < c.wires then (6 : Int) else c.wires) = k
      conv => whnf
      refine if_intro (fun hn => ?_) (fun hn => ?_)
      · conv => whnf
        rw [show ((v.length : Int) != shlI 1 k) = true from hn]
        rfl
      · conv => whnf
        rw [show ((v.length : Int) != shlI 1 k) = false from hn]
        rfl
  · have hG : G = true := not_false h
    subst hG
    conv => whnf
    rfl
end Go.Proofs.YtmhnalikebkhjaaGreatDoor


namespace Go.Proofs.YtmhnalikebkhjaaGreatDoor
open Go.Proofs.YtmhnalikebkhjaaGreatDoor.X Go.Proofs.YtmhnalikebkhjaaGreatDoor.X.PH
set_option maxRecDepth 100000

def polBell : Tmp → Pol := fun | 3 => .own | 4 => .imm | 6 => .imm | 8 => .imm | 13 => .imm | 15 => .imm | 17 => .imm | _ => .loc
theorem ints_c {H : PH} {b : Nat} {l : List Int} {n : Nat} {fr : Nat × Nat} (hb : H b = some (.cells ⟨l.map fun x => .int .i64 x⟩ 3 fr)) (hn : n = l.length := by rfl) : IntsC H (.slice (some ⟨b, 0, none⟩) n n) l := by
  subst hn
  exact ⟨_, _, rfl, Nat.le_refl _, ⟨_, _, rfl, .inr ⟨b, 0, _, _, _, rfl, hb, by simp [List.take_of_length_le]⟩⟩⟩
theorem gates_of {H : PH} {b n cap : Nat} {t : TypeId} {fr : Nat × Nat} {gs : List Gt} (cs : List (List Value)) (sp : List Value) (hb : H b = some (.cells ⟨cs.flatten ++ sp⟩ t fr)) (hl : cs.length = gs.length) (hn : n = gs.length) (hc : ∀ (i : Nat) g c, gs[i]? = some g → cs[i]? = some c → GateC H g c) : GatesH H (.slice (some ⟨b, 0, none⟩) n cap) gs := by
  subst hn
  refine ⟨cs, hl, ⟨fun c hcm => ?_, ⟨_, _, by rw [hl], .inr ⟨b, 0, _, _, _, rfl, hb, by simp⟩⟩⟩, hc⟩
  obtain ⟨i, hi, rfl⟩ := List.mem_iff_getElem.1 hcm
  obtain ⟨w, e, _⟩ := hc i _ _ (List.getElem?_eq_getElem (by omega)) (List.getElem?_eq_getElem hi)
  rw [e]
  rfl
theorem gates2 {H : PH} {b cap : Nat} {t : TypeId} {fr : Nat × Nat} {g1 g2 : Gt} {w1 w2 : Value} (hb : H b = some (.cells ⟨[.int .i64 g1.kind, w1, .int .i64 g1.bit, .int .i64 g1.cond, .int .i64 g2.kind, w2, .int .i64 g2.bit, .int .i64 g2.cond]⟩ t fr)) (h1 : IntsC H w1 g1.ws) (h2 : IntsC H w2 g2.ws) : GatesH H (.slice (some ⟨b, 0, none⟩) 2 cap) [g1, g2] :=
  gates_of [[.int .i64 g1.kind, w1, .int .i64 g1.bit, .int .i64 g1.cond], [.int .i64 g2.kind, w2, .int .i64 g2.bit, .int .i64 g2.cond]] [] (by simpa using hb) rfl rfl fun i g c hg hc => by
    match i with
    | 0 => cases hg; cases hc; exact ⟨_, rfl, h1⟩
    | 1 => cases hg; cases hc; exact ⟨_, rfl, h2⟩
theorem gates1 {H : PH} {b cap : Nat} {t : TypeId} {fr : Nat × Nat} {g1 : Gt} {w1 : Value} (hb : H b = some (.cells ⟨[.int .i64 g1.kind, w1, .int .i64 g1.bit, .int .i64 g1.cond]⟩ t fr)) (h1 : IntsC H w1 g1.ws) : GatesH H (.slice (some ⟨b, 0, none⟩) 1 cap) [g1] :=
  gates_of [[.int .i64 g1.kind, w1, .int .i64 g1.bit, .int .i64 g1.cond]] [] (by simpa using hb) rfl rfl fun i g c hg hc => by
    match i with
    | 0 => cases hg; cases hc; exact ⟨_, rfl, h1⟩
theorem gates3 {H : PH} {b cap : Nat} {t : TypeId} {fr : Nat × Nat} {g1 g2 g3 : Gt} {w1 w2 w3 : Value} (hb : H b = some (.cells ⟨[.int .i64 g1.kind, w1, .int .i64 g1.bit, .int .i64 g1.cond, .int .i64 g2.kind, w2, .int .i64 g2.bit, .int .i64 g2.cond, .int .i64 g3.kind, w3, .int .i64 g3.bit, .int .i64 g3.cond]⟩ t fr)) (h1 : IntsC H w1 g1.ws) (h2 : IntsC H w2 g2.ws) (h3 : IntsC H w3 g3.ws) : GatesH H (.slice (some ⟨b, 0, none⟩) 3 cap) [g1, g2, g3] :=
  gates_of [[.int .i64 g1.kind, w1, .int .i64 g1.bit, .int .i64 g1.cond], [.int .i64 g2.kind, w2, .int .i64 g2.bit, .int .i64 g2.cond], [.int .i64 g3.kind, w3, .int .i64 g3.bit, .int .i64 g3.cond]] [] (by simpa using hb) rfl rfl fun i g c hg hc => by
    match i with
    | 0 => cases hg; cases hc; exact ⟨_, rfl, h1⟩
    | 1 => cases hg; cases hc; exact ⟨_, rfl, h2⟩
    | 2 => cases hg; cases hc; exact ⟨_, rfl, h3⟩
def bellC (m : Bool) : Ct := ⟨2, 2, if m = true then [⟨4, [0], 0, 0⟩, ⟨9, [0, 1], 0, 0⟩, ⟨13, [0], 0, 0⟩, ⟨13, [1], 1, 0⟩] else [⟨4, [0], 0, 0⟩, ⟨9, [0, 1], 0, 0⟩]⟩
abbrev sl (b n : Nat) : Value := .slice (some ⟨b, 0, none⟩) n n
def i1 (H : PH) (b : Nat) (x : Int) : Prop := H b = some (.cells ⟨[.int .i64 x]⟩ 3 (0, 0))
/-- What each operation of the third region gives. -/
def BSp (b3 b8 b4 b6 : Nat) : Nat → Value → PH → PH → Prop
  | 0, x, _, _ => x = .pointer (some ⟨b3, 2, none⟩)
  | 1, x, _, _ => x = sl b8 2
  | 2, x, H, _ => ∃ b, x = sl b 1 ∧ i1 H b 0
  | 3, x, H, _ => ∃ b, x = .agg ⟨[.int .i64 13, sl b 1, .int .i64 0, .int .i64 0]⟩ ∧ i1 H b 0
  | 4, x, H, _ => ∃ b, x = sl b 1 ∧ i1 H b 1
  | 5, x, H, _ => ∃ b, x = .agg ⟨[.int .i64 13, sl b 1, .int .i64 1, .int .i64 0]⟩ ∧ i1 H b 1
  | 6, x, H, _ => ∃ b b1 b2, x = sl b 2 ∧ H b = some (.cells ⟨[.int .i64 13, sl b1 1, .int .i64 0, .int .i64 0, .int .i64 13, sl b2 1, .int .i64 1, .int .i64 0]⟩ 57 (0, 0)) ∧ i1 H b1 0 ∧ i1 H b2 1
  | 7, x, H, O => ∃ b cap sp b1 b2, x = .slice (some ⟨b, 0, none⟩) 4 cap ∧ b ≠ b3 ∧ O b = some (.cells ⟨[.int .i64 4, sl b4 1, .int .i64 0, .int .i64 0, .int .i64 9, sl b6 2, .int .i64 0, .int .i64 0, .int .i64 13, sl b1 1, .int .i64 0, .int .i64 0, .int .i64 13, sl b2 1, .int .i64 1, .int .i64 0] ++ sp⟩ 57 (0, 0)) ∧ i1 H b1 0 ∧ i1 H b2 1
  | 8, x, _, _ => x = .pointer (some ⟨b3, 2, none⟩)
  | 9, _, H, O => ∃ b cap sp b1 b2, O b3 = some (.cells ⟨[.int .i64 2, .int .i64 2, .slice (some ⟨b, 0, none⟩) 4 cap]⟩ 24 (0, 0)) ∧ b ≠ b3 ∧ O b = some (.cells ⟨[.int .i64 4, sl b4 1, .int .i64 0, .int .i64 0, .int .i64 9, sl b6 2, .int .i64 0, .int .i64 0, .int .i64 13, sl b1 1, .int .i64 0, .int .i64 0, .int .i64 13, sl b2 1, .int .i64 1, .int .i64 0] ++ sp⟩ 57 (0, 0)) ∧ i1 H b1 0 ∧ i1 H b2 1
  | _, _, _, _ => True
theorem BSp.up {b3 b8 b4 b6 i : Nat} {x : Value} {H H' O : PH} (h : BSp b3 b8 b4 b6 i x H O) (hs : Sub H H') : BSp b3 b8 b4 b6 i x H' O := by
  unfold BSp i1 at *
  split at h
  all_goals first
    | exact h
    | (obtain ⟨b, h1, h2⟩ := h; exact ⟨b, h1, hs _ _ h2⟩)
    | (obtain ⟨b, b1, b2, h1, h2, h3, h4⟩ := h; exact ⟨b, b1, b2, h1, hs _ _ h2, hs _ _ h3, hs _ _ h4⟩)
    | (obtain ⟨b, cap, sp, b1, b2, h1, h2, h3, h4, h5⟩ := h; exact ⟨b, cap, sp, b1, b2, h1, h2, h3, hs _ _ h4, hs _ _ h5⟩)
theorem BSp.o {b3 b8 b4 b6 i : Nat} {x : Value} {H O O' : PH} (h : BSp b3 b8 b4 b6 i x H O) (h7 : i ≠ 7) (h9 : i ≠ 9) : BSp b3 b8 b4 b6 i x H O' := by
  unfold BSp at *
  split at h
  all_goals first
    | exact h
    | exact absurd rfl h7
    | exact absurd rfl h9
/-- The state while the operations of the third region are done. -/
structure BI (H0 : PH) (b3 b8 b4 b6 : Nat) (L : Nat → Bool) (V : Nat → Value) (H O : PH) : Prop where
  sub : Sub H0 H
  old : L 9 = false → O b3 = some (.cells ⟨[.int .i64 2, .int .i64 2, sl b8 2]⟩ 24 (0, 0))
  sp : ∀ i, L i = true → BSp b3 b8 b4 b6 i (V i) H O
  c7 : L 7 = true → L 1 = true
  c9 : L 9 = true → L 7 = true
theorem BI.step {H0 : PH} {b3 b8 b4 b6 : Nat} {L : Nat → Bool} {V : Nat → Value} {H O H' : PH} (h : BI H0 b3 b8 b4 b6 L V H O) {i : Nat} {v : Value} (hs : Sub H H') (h9 : i ≠ 9) (hv : BSp b3 b8 b4 b6 i v H' O) (h7 : i = 7 → L 1 = true := by intro h; exact absurd h (by decide)) : BI H0 b3 b8 b4 b6 (setL L i) (setV V i v) H' O := by
  refine ⟨h.sub.trans hs, fun h' => h.old ?_, fun k hk => ?_, ?_, ?_⟩
  · unfold setL at h'
    cases e : L 9 with
    | false => rfl
    | true => rw [e] at h'; simp at h'
  · by_cases e : k = i
    · subst e
      simp only [setV, beq_self_eq_true, cond_true]
      exact hv
    · have e2 : (k == i) = false := by simpa using e
      simp only [setV, e2, cond_false]
      simp only [setL, e2, Bool.false_or] at hk
      exact (h.sp k hk).up hs
  · intro h'
    simp only [setL] at h' ⊢
    by_cases e : i = 7
    · rw [h7 e, Bool.or_true]
    · rw [beq_eq_false_iff_ne.2 (Ne.symm e), Bool.false_or] at h'
      rw [h.c7 h', Bool.or_true]
  · intro h'
    simp only [setL] at h' ⊢
    rw [beq_eq_false_iff_ne.2 (Ne.symm h9), Bool.false_or] at h'
    rw [h.c9 h', Bool.or_true]
set_option maxHeartbeats 4000000 in
theorem d53o (m : Bool) (H : PH) : Cl Tryz.prog 53 [.bool m] H emp fun r H' M' => CircH H' r (bellC m) ∨ (m = true ∧ ∃ b cap sp b4 b6 b1 b2, r = .agg ⟨[.int .i64 2, .int .i64 2, .slice (some ⟨b, 0, none⟩) 4 cap]⟩ ∧ M' b = some (.cells ⟨[.int .i64 4, sl b4 1, .int .i64 0, .int .i64 0, .int .i64 9, sl b6 2, .int .i64 0, .int .i64 0, .int .i64 13, sl b1 1, .int .i64 0, .int .i64 0, .int .i64 13, sl b2 1, .int .i64 1, .int .i64 0] ++ sp⟩ 57 (0, 0)) ∧ i1 H' b4 0 ∧ H' b6 = some (.cells ⟨[.int .i64 0, .int .i64 1]⟩ 3 (0, 0)) ∧ i1 H' b1 0 ∧ i1 H' b2 1) := by
  refine Cl_of (pol := polBell) Γok Tryz.func53 (by kernel_rfl) rfl ?_
  conv => whnf
  intro b2
  conv => whnf
  intro b4 hb4 hO4
  conv => whnf
  have s4 := sub_ins H (.cells ⟨[.int .i64 0]⟩ 3 (0, 0)) hb4
  refine (d51 4 _ [0] _ (ints_c (ins_same _ _ _))).val fun Ha sa => ?_
  conv => whnf
  intro b6 hb6 hO6
  conv => whnf
  have s6 := sub_ins Ha (.cells ⟨[.int .i64 0, .int .i64 1]⟩ 3 (0, 0)) hb6
  refine (d51 9 _ [0, 1] _ (ints_c (ins_same _ _ _))).val fun Hb sb => ?_
  conv => whnf
  intro b8 hb8 hO8
  conv => whnf
  have s8 := sub_ins Hb (.cells ⟨[.int .i64 4, sl b4 1, .int .i64 0, .int .i64 0, .int .i64 9, sl b6 2, .int .i64 0, .int .i64 0]⟩ 57 (0, 0)) hb8
  intro b3 hb3 hO3
  conv => whnf
  refine ⟨_, _, ins_same _ _ _, Nat.le_refl 3, ?_⟩
  rw [ins_ins]
  have hsub : Sub H (ins Hb b8 (.cells ⟨[.int .i64 4, sl b4 1, .int .i64 0, .int .i64 0, .int .i64 9, sl b6 2, .int .i64 0, .int .i64 0]⟩ 57 (0, 0))) := s4.trans (sa.trans (s6.trans (sb.trans s8)))
  have h4 : (ins Hb b8 (.cells ⟨[.int .i64 4, sl b4 1, .int .i64 0, .int .i64 0, .int .i64 9, sl b6 2, .int .i64 0, .int .i64 0]⟩ 57 (0, 0))) b4 = some (.cells ⟨[.int .i64 0]⟩ 3 (0, 0)) := (sa.trans (s6.trans (sb.trans s8))) _ _ (ins_same _ _ _)
  have h6 : (ins Hb b8 (.cells ⟨[.int .i64 4, sl b4 1, .int .i64 0, .int .i64 0, .int .i64 9, sl b6 2, .int .i64 0, .int .i64 0]⟩ 57 (0, 0))) b6 = some (.cells ⟨[.int .i64 0, .int .i64 1]⟩ 3 (0, 0)) := (sb.trans s8) _ _ (ins_same _ _ _)
  have h8 : (ins Hb b8 (.cells ⟨[.int .i64 4, sl b4 1, .int .i64 0, .int .i64 0, .int .i64 9, sl b6 2, .int .i64 0, .int .i64 0]⟩ 57 (0, 0))) b8 = some (.cells ⟨[.int .i64 4, sl b4 1, .int .i64 0, .int .i64 0, .int .i64 9, sl b6 2, .int .i64 0, .int .i64 0]⟩ 57 (0, 0)) := ins_same _ _ _
  generalize (ins Hb b8 (.cells ⟨[.int .i64 4, sl b4 1, .int .i64 0, .int .i64 0, .int .i64 9, sl b6 2, .int .i64 0, .int .i64 0]⟩ 57 (0, 0))) = H1 at hsub h4 h6 h8 hb3 ⊢
  cases m with
  | false =>
    conv => whnf
    refine ⟨_, ⟨rfl, rfl, _, _, _, .inr (ins_same _ _ _), rfl⟩, ?_⟩
    conv => whnf
    exact .inl ⟨sl b8 2, rfl, gates2 (g1 := ⟨4, [0], 0, 0⟩) (g2 := ⟨9, [0, 1], 0, 0⟩) h8 (ints_c h4) (ints_c h6)⟩
  | true =>
    conv => whnf
    refine W_free (pol := polBell) Γok mixes 21 (by kernel_rfl) rfl (BI H1 b3 b8 b4 b6) ⟨Sub.refl _, fun _ => ins_same _ _ _, fun i h => (by cases h), fun h => (by cases h), fun h => (by cases h)⟩ ?_ ?_
    · intro i o ho L V H' O' hI hLi hsee
      have hi : i < 10 := (List.getElem?_eq_some_iff.1 ho).1
      have get : ∀ j, seesB _ o j = true → BSp b3 b8 b4 b6 j (V j) H' O' := fun j h => hI.sp j (hsee j h)
      rcases (show i = 0 ∨ i = 1 ∨ i = 2 ∨ i = 3 ∨ i = 4 ∨ i = 5 ∨ i = 6 ∨ i = 7 ∨ i = 8 ∨ i = 9 by omega) with rfl | rfl | rfl | rfl | rfl | rfl | rfl | rfl | rfl | rfl
      · cases ho
        conv => whnf
        exact ⟨⟨_, rfl⟩, _, rfl, hI.step (Sub.refl _) (by decide) rfl⟩
      · cases ho
        have h0 : V 0 = .pointer (some ⟨b3, 2, none⟩) := get 0 (by kernel_rfl)
        have h9 : L 9 = false := by
          cases e : L 9 with
          | false => rfl
          | true =>
            have := hI.c7 (hI.c9 e)
            rw [hLi] at this
            cases this
        conv => whnf
        rw [h0]
        conv => whnf
        refine ⟨[sl b8 2], ⟨rfl, rfl, _, _, _, .inr (hI.old h9), rfl⟩, ?_⟩
        conv => whnf
        exact ⟨⟨_, rfl⟩, _, rfl, hI.step (Sub.refl _) (by decide) rfl⟩
      · cases ho
        conv => whnf
        intro b hb hO
        exact ⟨⟨_, rfl⟩, _, rfl, hI.step (sub_ins _ _ hb) (by decide) ⟨b, rfl, ins_same _ _ _⟩⟩
      · cases ho
        obtain ⟨b, h2, h2'⟩ : ∃ b, V 2 = sl b 1 ∧ i1 H' b 0 := get 2 (by kernel_rfl)
        conv => whnf
        rw [h2]
        conv => whnf
        refine (d51 13 _ [0] _ (ints_c h2')).val fun H3 s3 => ?_
        conv => whnf
        exact ⟨⟨_, rfl⟩, _, rfl, hI.step s3 (by decide) ⟨b, rfl, s3 _ _ h2'⟩⟩
      · cases ho
        conv => whnf
        intro b hb hO
        exact ⟨⟨_, rfl⟩, _, rfl, hI.step (sub_ins _ _ hb) (by decide) ⟨b, rfl, ins_same _ _ _⟩⟩
      · cases ho
        obtain ⟨b, h2, h2'⟩ : ∃ b, V 4 = sl b 1 ∧ i1 H' b 1 := get 4 (by kernel_rfl)
        conv => whnf
        rw [h2]
        conv => whnf
        exact ⟨⟨_, rfl⟩, _, rfl, hI.step (Sub.refl _) (by decide) ⟨b, rfl, h2'⟩⟩
      · cases ho
        obtain ⟨b1, h1, h1'⟩ : ∃ b, V 3 = .agg ⟨[.int .i64 13, sl b 1, .int .i64 0, .int .i64 0]⟩ ∧ i1 H' b 0 := get 3 (by kernel_rfl)
        obtain ⟨b2, h2, h2'⟩ : ∃ b, V 5 = .agg ⟨[.int .i64 13, sl b 1, .int .i64 1, .int .i64 0]⟩ ∧ i1 H' b 1 := get 5 (by kernel_rfl)
        conv => whnf
        rw [h1]
        conv => whnf
        rw [h2]
        conv => whnf
        intro b hb hO
        have s := sub_ins H' (.cells ⟨[.int .i64 13, sl b1 1, .int .i64 0, .int .i64 0, .int .i64 13, sl b2 1, .int .i64 1, .int .i64 0]⟩ 57 (0, 0)) hb
        exact ⟨⟨_, rfl⟩, _, rfl, hI.step s (by decide) ⟨b, b1, b2, rfl, ins_same _ _ _, s _ _ h1', s _ _ h2'⟩⟩
      · cases ho
        have h1 : V 1 = sl b8 2 := get 1 (by kernel_rfl)
        obtain ⟨b, b1, b2, h6', hb, hb1, hb2⟩ : ∃ b b1 b2, V 6 = sl b 2 ∧ H' b = some (.cells ⟨[.int .i64 13, sl b1 1, .int .i64 0, .int .i64 0, .int .i64 13, sl b2 1, .int .i64 1, .int .i64 0]⟩ 57 (0, 0)) ∧ i1 H' b1 0 ∧ i1 H' b2 1 := get 6 (by kernel_rfl)
        have hL1 : L 1 = true := hsee 1 (by kernel_rfl)
        conv => whnf
        rw [h1]
        conv => whnf
        rw [h6']
        conv => whnf
        unfold appendK
        refine ⟨some ⟨b8, 0, none⟩, 2, 2, some ⟨b, 0, none⟩, 2, 2, [.int .i64 13, sl b1 1, .int .i64 0, .int .i64 0, .int .i64 13, sl b2 1, .int .i64 1, .int .i64 0], rfl, rfl, rfl, ?_, (fun h => by cases h), fun a ha _ => ?_, by decide, rfl, (fun h => by cases h), (fun _ h => by omega), fun _ => ⟨[.int .i64 4, sl b4 1, .int .i64 0, .int .i64 0, .int .i64 9, sl b6 2, .int .i64 0, .int .i64 0], rfl, (fun h => by cases h), fun a ha => ?_, fun bn cap hn1 hn2 hcap => ?_⟩⟩
        · intro v hv
          simp only [List.mem_cons, List.not_mem_nil, or_false] at hv
          rcases hv with rfl | rfl | rfl | rfl | rfl | rfl | rfl | rfl <;> rfl
        · cases ha
          exact ⟨rfl, rfl, _, _, _, .inl hb, rfl⟩
        · cases ha
          exact ⟨rfl, rfl, _, _, _, .inl (hI.sub _ _ h8), rfl⟩
        · conv => whnf
          have h9 : L 9 = false := by
            cases e : L 9 with
            | false => rfl
            | true =>
              have := hI.c9 e
              rw [hLi] at this
              cases this
          have hbn : bn ≠ b3 := fun e => by rw [e, hI.old h9] at hn2; cases hn2
          refine ⟨⟨_, rfl⟩, _, rfl, hI.sub, fun _ => (ins_ne _ _ (Ne.symm hbn)).trans (hI.old h9), fun k hk => ?_, fun _ => ?_, fun h => ?_⟩
          · by_cases e : k = 7
            · subst e
              exact ⟨bn, cap, _, b1, b2, rfl, hbn, ins_same _ _ _, hb1, hb2⟩
            · have e2 : (k == 7) = false := by simpa using e
              simp only [setV, e2, cond_false]
              simp only [setL, e2, Bool.false_or] at hk
              exact (hI.sp k hk).o e fun e => by rw [e, h9] at hk; cases hk
          · simp only [setL]
            rw [hL1, Bool.or_true]
          · simp only [setL]
            rfl
      · cases ho
        conv => whnf
        exact ⟨⟨_, rfl⟩, _, rfl, hI.step (Sub.refl _) (by decide) rfl⟩
      · cases ho
        have h8' : V 8 = .pointer (some ⟨b3, 2, none⟩) := get 8 (by kernel_rfl)
        obtain ⟨b, cap, sp, b1, b2, h7, hbb, hO, hb1, hb2⟩ : ∃ b cap sp b1 b2, V 7 = .slice (some ⟨b, 0, none⟩) 4 cap ∧ b ≠ b3 ∧ O' b = some (.cells ⟨[.int .i64 4, sl b4 1, .int .i64 0, .int .i64 0, .int .i64 9, sl b6 2, .int .i64 0, .int .i64 0, .int .i64 13, sl b1 1, .int .i64 0, .int .i64 0, .int .i64 13, sl b2 1, .int .i64 1, .int .i64 0] ++ sp⟩ 57 (0, 0)) ∧ i1 H' b1 0 ∧ i1 H' b2 1 := get 7 (by kernel_rfl)
        have hL7 : L 7 = true := hsee 7 (by kernel_rfl)
        conv => whnf
        rw [h8']
        conv => whnf
        rw [h7]
        conv => whnf
        refine ⟨_, _, hI.old hLi, Nat.le_refl 3, ?_⟩
        refine ⟨⟨_, rfl⟩, _, rfl, hI.sub, fun h => by simp [setL] at h, fun k hk => ?_, fun _ => ?_, fun h => ?_⟩
        · by_cases e : k = 9
          · subst e
            exact ⟨b, cap, sp, b1, b2, ins_same _ _ _, hbb, (ins_ne _ _ hbb).trans hO, hb1, hb2⟩
          · have e2 : (k == 9) = false := by simpa using e
            simp only [setV, e2, cond_false]
            simp only [setL, e2, Bool.false_or] at hk
            by_cases e7 : k = 7
            · subst e7
              exact ⟨b, cap, sp, b1, b2, h7, hbb, (ins_ne _ _ hbb).trans hO, hb1, hb2⟩
            · exact (hI.sp k hk).o e7 e
        · simp only [setL]
          rw [hI.c7 hL7, Bool.or_true]
        · simp only [setL]
          rw [hL7, Bool.or_true]
    · intro L V H' O' hI hall
      obtain ⟨b, cap, sp, b1, b2, h1, h2, h3, h4', h5⟩ := hI.sp 9 (hall 9 (by decide))
      conv => whnf
      refine ⟨_, ⟨rfl, rfl, _, _, _, .inr h1, rfl⟩, ?_⟩
      conv => whnf
      exact .inr ⟨rfl, b, cap, sp, b4, b6, b1, b2, rfl, h3, hI.sub _ _ h4, hI.sub _ _ h6, h4', h5⟩
theorem d53 (m : Bool) (H : PH) : Cl Tryz.prog 53 [.bool m] H emp fun r H' _ => CircH H' r (bellC m) :=
  (d53o m H).repart fun r H' M' _ hd h => by
    rcases h with h | ⟨rfl, b, cap, sp, b4, b6, b1, b2, rfl, hO, h4, h6, h1, h2⟩
    · exact ⟨H', M', .refl hd, h⟩
    · have rp := Repart.one hd hO
      refine ⟨_, _, rp, .slice (some ⟨b, 0, none⟩) 4 cap, rfl, gates_of [[.int .i64 4, sl b4 1, .int .i64 0, .int .i64 0], [.int .i64 9, sl b6 2, .int .i64 0, .int .i64 0], [.int .i64 13, sl b1 1, .int .i64 0, .int .i64 0], [.int .i64 13, sl b2 1, .int .i64 1, .int .i64 0]] sp (ins_same _ _ _) rfl rfl fun i g c hg hc => ?_⟩
      match i with
      | 0 => cases hg; cases hc; exact ⟨_, rfl, ints_c (rp.sub _ _ h4)⟩
      | 1 => cases hg; cases hc; exact ⟨_, rfl, ints_c (rp.sub _ _ h6)⟩
      | 2 => cases hg; cases hc; exact ⟨_, rfl, ints_c (rp.sub _ _ h1)⟩
      | 3 => cases hg; cases hc; exact ⟨_, rfl, ints_c (rp.sub _ _ h2)⟩
end Go.Proofs.YtmhnalikebkhjaaGreatDoor


namespace Go.Proofs.YtmhnalikebkhjaaGreatDoor
open Go.Proofs.YtmhnalikebkhjaaGreatDoor.X Go.Proofs.YtmhnalikebkhjaaGreatDoor.X.PH
set_option maxRecDepth 100000

abbrev n1 : P4 × Int := (⟨1, 0, 0, 0⟩, 0)
abbrev n0 : P4 × Int := (⟨0, 0, 0, 0⟩, 0)
abbrev nr : P4 × Int := (⟨1, 0, 0, 0⟩, 1)
abbrev nh : P4 × Int := (⟨1, 0, 0, 0⟩, 2)
abbrev g1 (k : Int) : Gt := ⟨k, [0], 0, 0⟩
theorem ex_zero : basisI 2 0 = ([n1, n0, n0, n0], 0) := by kernel_rfl
theorem ex_run : runR (bellC true) [n1, n0, n0, n0] = ([⟨[0, 0], 0, [nr, n0, n0, n0]⟩, ⟨[1, 1], 3, [n0, n0, n0, nr]⟩], 0) := by kernel_rfl
theorem ex_along : alongR (bellC false) [n1, n0, n0, n0] [] = (⟨[], 0, [nr, n0, n0, nr]⟩, 0) := by kernel_rfl
theorem ex_bits : bitsR (bellC true) [n1, n0, n0, n0] = ([nh, n0, n0, nh], 0) := by kernel_rfl
theorem ex_odds : oddsV [nr, n0, n0, nr] 0 = (nh, 0) := by kernel_rfl
theorem ex_reset : runR ⟨1, 0, [g1 4, g1 14]⟩ [n1, n0] = ([⟨[0], 0, [nr, n0]⟩, ⟨[1], 0, [nr, n0]⟩], 0) := by kernel_rfl
theorem ex_if : runR ⟨1, 1, [g1 4, g1 13, ⟨1, [0], 0, 1⟩]⟩ [n1, n0] = ([⟨[0], 0, [nr, n0]⟩, ⟨[1], 1, [nr, n0]⟩], 0) := by kernel_rfl
theorem ex_eq : equalC ⟨1, 0, [g1 1, g1 3]⟩ ⟨1, 0, [g1 2]⟩ = (2, 0) := by kernel_rfl
theorem ex_ne : (equalC ⟨1, 0, [g1 4]⟩ ⟨1, 0, [g1 1]⟩).2 = 6 := by kernel_rfl
end Go.Proofs.YtmhnalikebkhjaaGreatDoor


namespace Go.Proofs.YtmhnalikebkhjaaGreatDoor
open Go.Proofs.YtmhnalikebkhjaaGreatDoor.X Go.Proofs.YtmhnalikebkhjaaGreatDoor.X.PH
set_option maxRecDepth 100000

def polAw : Tmp → Pol := fun | 46 => .imm | 51 => .imm | 53 => .imm | 55 => .imm | 59 => .imm | 64 => .imm | 66 => .imm | 68 => .imm | 70 => .imm | 74 => .imm | 79 => .imm | 81 => .imm | 83 => .imm | 85 => .imm | 87 => .imm | 93 => .imm | 95 => .imm | 97 => .imm | 99 => .imm | 159 => .imm | 166 => .imm | 174 => .imm | 197 => .imm | 216 => .imm | 226 => .imm | 236 => .imm | _ => .loc
/-- What the package's variables hold. -/
def GlobH (H : PH) : Prop := Rd H emp ⟨0, 0, none⟩ 5 [.int .i64 1, .int .i64 0, .int .i64 0, .int .i64 0, .int .i64 1] ∧ Rd H emp ⟨1, 0, none⟩ 5 [.int .i64 1, .int .i64 0, .int .i64 0, .int .i64 0, .int .i64 2]
theorem GlobH.up {H H' : PH} (h : GlobH H) (hs : Sub H H') : GlobH H' := ⟨Rd_up h.1 hs, Rd_up h.2 hs⟩
theorem d16r (c : Ct) (v : Vec) (gs : Value) (hfit : c.fit) (hv : v.length ≤ 100000) (H : PH) (y : Value) (hx : GatesH H gs c.gates) (hy : NumH H y v) : Cl Tryz.prog 16 [cv c gs, y] H emp fun r H' _ => OutBs H' r (runR c v) :=
  Cl.outBs ((d16 c v gs hfit hv H y hx hy).mono fun _ _ _ _ ⟨u, cs, e, h1, h2⟩ => ⟨u, cs, e, h1, h2.brs⟩)
theorem brs2 {H : PH} {u : Value} {b0 b1 : Br} (h : BrsH H u [b0, b1]) : ∃ b off cap ov0 sv0 ov1 sv1, u = .slice (some ⟨b, off, none⟩) 2 cap ∧ IntsC H ov0 b0.outs ∧ NumH H sv0 b0.state ∧ IntsC H ov1 b1.outs ∧ NumH H sv1 b1.state ∧
    (∀ H' O, Sub H H' → Rd H' O ⟨b, off, none⟩ 3 [ov0, .int .i64 b0.bits, sv0]) ∧ ∀ H' O, Sub H H' → Rd H' O ⟨b, off + 3, none⟩ 3 [ov1, .int .i64 b1.bits, sv1] := by
  obtain ⟨cs, h1, h2, h3⟩ := h
  match cs, h2 with
  | [c0, c1], _ =>
    obtain ⟨ov0, sv0, rfl, a1, a2⟩ := h3 0 _ _ rfl rfl
    obtain ⟨ov1, sv1, rfl, a3, a4⟩ := h3 1 _ _ rfl rfl
    obtain ⟨ub, uc, rfl⟩ := h1.sl
    obtain ⟨b, off, rfl, r0⟩ := h1.rd (i := 0) (by simp)
    obtain ⟨b', off', e, r1⟩ := h1.rd (i := 1) (by simp)
    cases e
    refine ⟨b, off, uc, ov0, sv0, ov1, sv1, rfl, a1, a2, a3, a4, fun H' O hs => ?_, fun H' O hs => ?_⟩
    · have := r0 H' O hs
      simpa using this
    · have := r1 H' O hs
      simpa using this
theorem c48t (l m : Vec) (h : eqL l m = true) (hlen : l.length < 9223372036854775808) (H : PH) (u v : Value) (hu : NumH H u l) (hv : NumH H v m) : Cl Tryz.prog 21 [u, v] H emp fun r _ _ => r = .bool true := by
  rw [← h]
  exact c48 l m H u v hu hv hlen
theorem c25t (l m : List Int) (h : l = m) (hlen : l.length < 9223372036854775808) (H : PH) (u v : Value) (hu : IntsH H u l) (hv : IntsH H v m) : Cl Tryz.prog 23 [u, v] H emp fun r _ _ => r = .bool true := by
  have := c25 l m hlen H u v hu hv
  rwa [decide_eq_true h] at this
theorem rdu3 {H H1 : PH} {a : Addr} {cs : List Value} (h : ∀ H' O, Sub H H' → Rd H' O a 3 cs) (hs : Sub H H1) : ∀ H' O, Sub H1 H' → Rd H' O a 3 cs := fun H' O h' => h H' O (hs.trans h')
theorem fit_of {c : Ct} (h1 : c.gates.length ≤ 100) (h2 : (c.gates.all fun g => decide (g.ws.length ≤ 100)) = true) : c.fit := ⟨by omega, fun g hg => by
  have := List.all_eq_true.1 h2 g hg
  have := of_decide_eq_true this
  omega⟩
set_option maxHeartbeats 8000000 in
theorem d9 (H : PH) (hG : GlobH H) : Cl Tryz.prog 9 [] H emp fun r _ _ => r = .bool true := by
  refine Cl_of (pol := polAw) Γok Tryz.func9 (by kernel_rfl) rfl ?_
  conv => whnf
  refine (d45 2 0 _).use fun r H1 s1 hr => ?_
  obtain ⟨_, zv, rfl, hz⟩ := hr
  rw [ex_zero] at hz ⊢
  obtain ⟨zb, zc, rfl, _⟩ := id hz
  have t1 := s1
  replace hG := GlobH.up hG t1
  conv => whnf
  refine (d53 true _).use fun r H2 s2 hr => ?_
  obtain ⟨_, ga, rfl, hga⟩ := hr
  obtain ⟨gab, gac, rfl⟩ := hga.sl
  have t2 := s2
  replace hG := GlobH.up hG t2
  replace hz := NumH.up hz t2
  conv => whnf
  refine (d16r (bellC true) [n1, n0, n0, n0] _ (fit_of (by decide) (by decide)) (by simp) _ _ (GatesH.up hga (Sub.refl _)) (NumH.up hz (Sub.refl _))).use fun r H3 s3 hr => ?_
  obtain ⟨_, l, rfl, hl⟩ := hr
  rw [ex_run] at hl ⊢
  obtain ⟨lb, lo, lc, lp, lq, lr, ls, rfl, l1, l2, l3, l4, l5, l6⟩ := brs2 hl
  have t3 := s3
  replace hG := GlobH.up hG t3
  replace hz := NumH.up hz t3
  replace hga := GatesH.up hga t3
  obtain ⟨lpb, lpc, rfl, _⟩ := id l1
  obtain ⟨lrb, lrc, rfl, _⟩ := id l3
  obtain ⟨lqb, lqc, rfl, _⟩ := id l2
  obtain ⟨lsb, lsc, rfl, _⟩ := id l4
  conv => whnf
  refine (d53 false _).use fun r H4 s4 hr => ?_
  obtain ⟨_, gb, rfl, hgb⟩ := hr
  obtain ⟨gbb, gbc, rfl⟩ := hgb.sl
  have t4 := s4
  replace hG := GlobH.up hG t4
  replace hz := NumH.up hz t4
  replace hga := GatesH.up hga t4
  replace l1 := IntsC.up l1 t4
  replace l2 := NumH.up l2 t4
  replace l3 := IntsC.up l3 t4
  replace l4 := NumH.up l4 t4
  replace l5 := rdu3 l5 t4
  replace l6 := rdu3 l6 t4
  conv => whnf
  refine (d17 (bellC false) [n1, n0, n0, n0] [] _ (fit_of (by decide) (by decide)) (by simp) (by simp) _ _ _ (GatesH.up hgb (Sub.refl _)) (NumH.up hz (Sub.refl _)) (IntsC.nil _)).use fun r H5 s5 hr => ?_
  obtain ⟨_, vc, rfl, hvc⟩ := hr
  rw [ex_along] at hvc ⊢
  obtain ⟨vo, vs, rfl, hv1, hv2⟩ := hvc.c
  obtain ⟨vob, voc, rfl, _⟩ := id hv1
  obtain ⟨vsb, vsc, rfl, _⟩ := id hv2
  have t5 := s5
  replace hG := GlobH.up hG t5
  replace hz := NumH.up hz t5
  replace hga := GatesH.up hga t5
  replace l1 := IntsC.up l1 t5
  replace l2 := NumH.up l2 t5
  replace l3 := IntsC.up l3 t5
  replace l4 := NumH.up l4 t5
  replace l5 := rdu3 l5 t5
  replace l6 := rdu3 l6 t5
  replace hgb := GatesH.up hgb t5
  conv => whnf
  intro b5
  conv => whnf
  refine (d53 true _).use fun r H6 s6 hr => ?_
  obtain ⟨_, gc, rfl, hgc⟩ := hr
  obtain ⟨gcb, gcc, rfl⟩ := hgc.sl
  have t6 := s6
  replace hG := GlobH.up hG t6
  replace hz := NumH.up hz t6
  replace hga := GatesH.up hga t6
  replace l1 := IntsC.up l1 t6
  replace l2 := NumH.up l2 t6
  replace l3 := IntsC.up l3 t6
  replace l4 := NumH.up l4 t6
  replace l5 := rdu3 l5 t6
  replace l6 := rdu3 l6 t6
  replace hgb := GatesH.up hgb t6
  replace hv2 := NumH.up hv2 t6
  conv => whnf
  refine (d18 (bellC true) [n1, n0, n0, n0] _ (fit_of (by decide) (by decide)) (by simp) _ _ (GatesH.up hgc (Sub.refl _)) (NumH.up hz (Sub.refl _))).use fun r H7 s7 hr => ?_
  obtain ⟨_, bv, rfl, hbv⟩ := hr
  rw [ex_bits] at hbv ⊢
  obtain ⟨bvb, bvc, rfl, _⟩ := id hbv
  have t7 := s7
  replace hG := GlobH.up hG t7
  replace hz := NumH.up hz t7
  replace hga := GatesH.up hga t7
  replace l1 := IntsC.up l1 t7
  replace l2 := NumH.up l2 t7
  replace l3 := IntsC.up l3 t7
  replace l4 := NumH.up l4 t7
  replace l5 := rdu3 l5 t7
  replace l6 := rdu3 l6 t7
  replace hgb := GatesH.up hgb t7
  replace hv2 := NumH.up hv2 t7
  replace hgc := GatesH.up hgc t7
  conv => whnf
  refine ⟨_, Rd.anyO (O := emp) (GlobH.up hG (Sub.refl _)).1, ?_⟩
  conv => whnf
  refine ⟨_, Rd.anyO (O := emp) (GlobH.up hG (Sub.refl _)).1, ?_⟩
  conv => whnf
  intro b8 hb8 kb8
  conv => whnf
  refine (d29 [nr, n0, n0, nr] 0 (by simp) _ _ (quad_num (ins_same _ _ _))).val fun H9 s9 => ?_
  have t9 := ((sub_ins _ _ hb8).trans s9)
  replace hG := GlobH.up hG t9
  replace hz := NumH.up hz t9
  replace hga := GatesH.up hga t9
  replace l1 := IntsC.up l1 t9
  replace l2 := NumH.up l2 t9
  replace l3 := IntsC.up l3 t9
  replace l4 := NumH.up l4 t9
  replace l5 := rdu3 l5 t9
  replace l6 := rdu3 l6 t9
  replace hgb := GatesH.up hgb t9
  replace hv2 := NumH.up hv2 t9
  replace hgc := GatesH.up hgc t9
  replace hbv := NumH.up hbv t9
  rw [ex_odds]
  conv => whnf
  intro b9
  conv => whnf
  intro b10 hb10 kb10
  conv => whnf
  refine (d51 4 _ [0] _ (ints_c (ins_same _ _ _))).val fun H11 s11 => ?_
  have t11 := ((sub_ins _ _ hb10).trans s11)
  replace hG := GlobH.up hG t11
  replace hz := NumH.up hz t11
  replace hga := GatesH.up hga t11
  replace l1 := IntsC.up l1 t11
  replace l2 := NumH.up l2 t11
  replace l3 := IntsC.up l3 t11
  replace l4 := NumH.up l4 t11
  replace l5 := rdu3 l5 t11
  replace l6 := rdu3 l6 t11
  replace hgb := GatesH.up hgb t11
  replace hv2 := NumH.up hv2 t11
  replace hgc := GatesH.up hgc t11
  replace hbv := NumH.up hbv t11
  have wb10 := t11
  have ib10 : IntsC H11 (sl b10 1) [0] := ints_c (s11 _ _ (ins_same _ _ _))
  conv => whnf
  intro b12 hb12 kb12
  conv => whnf
  refine (d51 14 _ [0] _ (ints_c (ins_same _ _ _))).val fun H13 s13 => ?_
  have t13 := ((sub_ins _ _ hb12).trans s13)
  replace hG := GlobH.up hG t13
  replace hz := NumH.up hz t13
  replace hga := GatesH.up hga t13
  replace l1 := IntsC.up l1 t13
  replace l2 := NumH.up l2 t13
  replace l3 := IntsC.up l3 t13
  replace l4 := NumH.up l4 t13
  replace l5 := rdu3 l5 t13
  replace l6 := rdu3 l6 t13
  replace hgb := GatesH.up hgb t13
  replace hv2 := NumH.up hv2 t13
  replace hgc := GatesH.up hgc t13
  replace hbv := NumH.up hbv t13
  replace ib10 := IntsC.up ib10 t13
  have wb12 := t13
  have ib12 : IntsC H13 (sl b12 1) [0] := ints_c (s13 _ _ (ins_same _ _ _))
  conv => whnf
  intro b14 hb14 kb14
  conv => whnf
  refine (d52 1 _ [g1 4, g1 14] _ (gates2 (g1 := g1 4) (g2 := g1 14) (ins_same _ _ _) (IntsC.up ib10 (sub_ins _ _ hb14)) (IntsC.up ib12 (sub_ins _ _ hb14)))).val fun H15 s15 => ?_
  have t15 := ((sub_ins _ _ hb14).trans s15)
  replace hG := GlobH.up hG t15
  replace hz := NumH.up hz t15
  replace hga := GatesH.up hga t15
  replace l1 := IntsC.up l1 t15
  replace l2 := NumH.up l2 t15
  replace l3 := IntsC.up l3 t15
  replace l4 := NumH.up l4 t15
  replace l5 := rdu3 l5 t15
  replace l6 := rdu3 l6 t15
  replace hgb := GatesH.up hgb t15
  replace hv2 := NumH.up hv2 t15
  replace hgc := GatesH.up hgc t15
  replace hbv := NumH.up hbv t15
  replace ib10 := IntsC.up ib10 t15
  replace ib12 := IntsC.up ib12 t15
  have ggr : GatesH H15 (sl b14 2) [g1 4, g1 14] := gates2 (g1 := g1 4) (g2 := g1 14) (s15 _ _ (ins_same _ _ _)) ib10 ib12
  conv => whnf
  intro b16 hb16 kb16
  conv => whnf
  refine (d16r ⟨1, 0, [g1 4, g1 14]⟩ [n1, n0] _ (fit_of (by decide) (by decide)) (by simp) _ _ (GatesH.up ggr (sub_ins _ _ hb16)) (pair_num (x := n1) (y := n0) (ins_same _ _ _))).use fun r H17 s17 hr => ?_
  obtain ⟨_, r, rfl, hr⟩ := hr
  rw [ex_reset] at hr ⊢
  obtain ⟨rb, ro, rc, rp, rq, rr, rs, rfl, r1, r2, r3, r4, r5, r6⟩ := brs2 hr
  have t17 := ((sub_ins _ _ hb16).trans s17)
  replace hG := GlobH.up hG t17
  replace hz := NumH.up hz t17
  replace hga := GatesH.up hga t17
  replace l1 := IntsC.up l1 t17
  replace l2 := NumH.up l2 t17
  replace l3 := IntsC.up l3 t17
  replace l4 := NumH.up l4 t17
  replace l5 := rdu3 l5 t17
  replace l6 := rdu3 l6 t17
  replace hgb := GatesH.up hgb t17
  replace hv2 := NumH.up hv2 t17
  replace hgc := GatesH.up hgc t17
  replace hbv := NumH.up hbv t17
  replace ib10 := IntsC.up ib10 t17
  replace ib12 := IntsC.up ib12 t17
  replace ggr := GatesH.up ggr t17
  obtain ⟨rpb, rpc, rfl, _⟩ := id r1
  obtain ⟨rrb, rrc, rfl, _⟩ := id r3
  obtain ⟨rqb, rqc, rfl, _⟩ := id r2
  obtain ⟨rsb, rsc, rfl, _⟩ := id r4
  conv => whnf
  intro b18 hb18 kb18
  conv => whnf
  refine (d51 4 _ [0] _ (ints_c (ins_same _ _ _))).val fun H19 s19 => ?_
  have t19 := ((sub_ins _ _ hb18).trans s19)
  replace hG := GlobH.up hG t19
  replace hz := NumH.up hz t19
  replace hga := GatesH.up hga t19
  replace l1 := IntsC.up l1 t19
  replace l2 := NumH.up l2 t19
  replace l3 := IntsC.up l3 t19
  replace l4 := NumH.up l4 t19
  replace l5 := rdu3 l5 t19
  replace l6 := rdu3 l6 t19
  replace hgb := GatesH.up hgb t19
  replace hv2 := NumH.up hv2 t19
  replace hgc := GatesH.up hgc t19
  replace hbv := NumH.up hbv t19
  replace r1 := IntsC.up r1 t19
  replace r2 := NumH.up r2 t19
  replace r3 := IntsC.up r3 t19
  replace r4 := NumH.up r4 t19
  replace r5 := rdu3 r5 t19
  replace r6 := rdu3 r6 t19
  have wb18 := t19
  have ib18 : IntsC H19 (sl b18 1) [0] := ints_c (s19 _ _ (ins_same _ _ _))
  conv => whnf
  intro b20 hb20 kb20
  conv => whnf
  refine (d51 13 _ [0] _ (ints_c (ins_same _ _ _))).val fun H21 s21 => ?_
  have t21 := ((sub_ins _ _ hb20).trans s21)
  replace hG := GlobH.up hG t21
  replace hz := NumH.up hz t21
  replace hga := GatesH.up hga t21
  replace l1 := IntsC.up l1 t21
  replace l2 := NumH.up l2 t21
  replace l3 := IntsC.up l3 t21
  replace l4 := NumH.up l4 t21
  replace l5 := rdu3 l5 t21
  replace l6 := rdu3 l6 t21
  replace hgb := GatesH.up hgb t21
  replace hv2 := NumH.up hv2 t21
  replace hgc := GatesH.up hgc t21
  replace hbv := NumH.up hbv t21
  replace r1 := IntsC.up r1 t21
  replace r2 := NumH.up r2 t21
  replace r3 := IntsC.up r3 t21
  replace r4 := NumH.up r4 t21
  replace r5 := rdu3 r5 t21
  replace r6 := rdu3 r6 t21
  replace ib18 := IntsC.up ib18 t21
  have wb20 := t21
  have ib20 : IntsC H21 (sl b20 1) [0] := ints_c (s21 _ _ (ins_same _ _ _))
  conv => whnf
  intro b22 hb22 kb22
  conv => whnf
  intro b23 hb23 kb23
  conv => whnf
  intro b24 hb24 kb24
  conv => whnf
  refine (d16r ⟨1, 1, [g1 4, g1 13, ⟨1, [0], 0, 1⟩]⟩ [n1, n0] _ (fit_of (by decide) (by decide)) (by simp) _ _ (GatesH.up (gates3 (g1 := g1 4) (g2 := g1 13) (g3 := ⟨1, [0], 0, 1⟩) (ins_same _ _ _) (IntsC.up ib18 ((sub_ins _ _ hb22).trans (sub_ins _ _ hb23))) (IntsC.up ib20 ((sub_ins _ _ hb22).trans (sub_ins _ _ hb23))) (IntsC.up (ints_c (ins_same _ _ _)) (sub_ins _ _ hb23))) (sub_ins _ _ hb24)) (pair_num (x := n1) (y := n0) (ins_same _ _ _))).use fun r H25 s25 hr => ?_
  obtain ⟨_, q, rfl, hq⟩ := hr
  rw [ex_if] at hq ⊢
  obtain ⟨qb, qo, qc, qp, qq, qr, qs, rfl, q1, q2, q3, q4, q5, q6⟩ := brs2 hq
  have t25 := ((sub_ins _ _ hb22).trans ((sub_ins _ _ hb23).trans ((sub_ins _ _ hb24).trans s25)))
  replace hG := GlobH.up hG t25
  replace hz := NumH.up hz t25
  replace hga := GatesH.up hga t25
  replace l1 := IntsC.up l1 t25
  replace l2 := NumH.up l2 t25
  replace l3 := IntsC.up l3 t25
  replace l4 := NumH.up l4 t25
  replace l5 := rdu3 l5 t25
  replace l6 := rdu3 l6 t25
  replace hgb := GatesH.up hgb t25
  replace hv2 := NumH.up hv2 t25
  replace hgc := GatesH.up hgc t25
  replace hbv := NumH.up hbv t25
  replace r1 := IntsC.up r1 t25
  replace r2 := NumH.up r2 t25
  replace r3 := IntsC.up r3 t25
  replace r4 := NumH.up r4 t25
  replace r5 := rdu3 r5 t25
  replace r6 := rdu3 r6 t25
  replace ib18 := IntsC.up ib18 t25
  replace ib20 := IntsC.up ib20 t25
  obtain ⟨qpb, qpc, rfl, _⟩ := id q1
  obtain ⟨qrb, qrc, rfl, _⟩ := id q3
  obtain ⟨qqb, qqc, rfl, _⟩ := id q2
  obtain ⟨qsb, qsc, rfl, _⟩ := id q4
  conv => whnf
  intro b26 hb26 kb26
  conv => whnf
  refine (d51 1 _ [0] _ (ints_c (ins_same _ _ _))).val fun H27 s27 => ?_
  have t27 := ((sub_ins _ _ hb26).trans s27)
  replace hG := GlobH.up hG t27
  replace hz := NumH.up hz t27
  replace hga := GatesH.up hga t27
  replace l1 := IntsC.up l1 t27
  replace l2 := NumH.up l2 t27
  replace l3 := IntsC.up l3 t27
  replace l4 := NumH.up l4 t27
  replace l5 := rdu3 l5 t27
  replace l6 := rdu3 l6 t27
  replace hgb := GatesH.up hgb t27
  replace hv2 := NumH.up hv2 t27
  replace hgc := GatesH.up hgc t27
  replace hbv := NumH.up hbv t27
  replace r1 := IntsC.up r1 t27
  replace r2 := NumH.up r2 t27
  replace r3 := IntsC.up r3 t27
  replace r4 := NumH.up r4 t27
  replace r5 := rdu3 r5 t27
  replace r6 := rdu3 r6 t27
  replace q1 := IntsC.up q1 t27
  replace q2 := NumH.up q2 t27
  replace q3 := IntsC.up q3 t27
  replace q4 := NumH.up q4 t27
  replace q5 := rdu3 q5 t27
  replace q6 := rdu3 q6 t27
  have wb26 := t27
  have ib26 : IntsC H27 (sl b26 1) [0] := ints_c (s27 _ _ (ins_same _ _ _))
  conv => whnf
  intro b28 hb28 kb28
  conv => whnf
  refine (d51 3 _ [0] _ (ints_c (ins_same _ _ _))).val fun H29 s29 => ?_
  have t29 := ((sub_ins _ _ hb28).trans s29)
  replace hG := GlobH.up hG t29
  replace hz := NumH.up hz t29
  replace hga := GatesH.up hga t29
  replace l1 := IntsC.up l1 t29
  replace l2 := NumH.up l2 t29
  replace l3 := IntsC.up l3 t29
  replace l4 := NumH.up l4 t29
  replace l5 := rdu3 l5 t29
  replace l6 := rdu3 l6 t29
  replace hgb := GatesH.up hgb t29
  replace hv2 := NumH.up hv2 t29
  replace hgc := GatesH.up hgc t29
  replace hbv := NumH.up hbv t29
  replace r1 := IntsC.up r1 t29
  replace r2 := NumH.up r2 t29
  replace r3 := IntsC.up r3 t29
  replace r4 := NumH.up r4 t29
  replace r5 := rdu3 r5 t29
  replace r6 := rdu3 r6 t29
  replace q1 := IntsC.up q1 t29
  replace q2 := NumH.up q2 t29
  replace q3 := IntsC.up q3 t29
  replace q4 := NumH.up q4 t29
  replace q5 := rdu3 q5 t29
  replace q6 := rdu3 q6 t29
  replace ib26 := IntsC.up ib26 t29
  have wb28 := t29
  have ib28 : IntsC H29 (sl b28 1) [0] := ints_c (s29 _ _ (ins_same _ _ _))
  conv => whnf
  intro b30 hb30 kb30
  conv => whnf
  refine (d52 1 _ [g1 1, g1 3] _ (gates2 (g1 := g1 1) (g2 := g1 3) (ins_same _ _ _) (IntsC.up ib26 (sub_ins _ _ hb30)) (IntsC.up ib28 (sub_ins _ _ hb30)))).val fun H31 s31 => ?_
  have t31 := ((sub_ins _ _ hb30).trans s31)
  replace hG := GlobH.up hG t31
  replace hz := NumH.up hz t31
  replace hga := GatesH.up hga t31
  replace l1 := IntsC.up l1 t31
  replace l2 := NumH.up l2 t31
  replace l3 := IntsC.up l3 t31
  replace l4 := NumH.up l4 t31
  replace l5 := rdu3 l5 t31
  replace l6 := rdu3 l6 t31
  replace hgb := GatesH.up hgb t31
  replace hv2 := NumH.up hv2 t31
  replace hgc := GatesH.up hgc t31
  replace hbv := NumH.up hbv t31
  replace r1 := IntsC.up r1 t31
  replace r2 := NumH.up r2 t31
  replace r3 := IntsC.up r3 t31
  replace r4 := NumH.up r4 t31
  replace r5 := rdu3 r5 t31
  replace r6 := rdu3 r6 t31
  replace q1 := IntsC.up q1 t31
  replace q2 := NumH.up q2 t31
  replace q3 := IntsC.up q3 t31
  replace q4 := NumH.up q4 t31
  replace q5 := rdu3 q5 t31
  replace q6 := rdu3 q6 t31
  replace ib26 := IntsC.up ib26 t31
  replace ib28 := IntsC.up ib28 t31
  have gd : GatesH H31 (sl b30 2) [g1 1, g1 3] := gates2 (g1 := g1 1) (g2 := g1 3) (s31 _ _ (ins_same _ _ _)) ib26 ib28
  conv => whnf
  intro b32 hb32 kb32
  conv => whnf
  refine (d51 2 _ [0] _ (ints_c (ins_same _ _ _))).val fun H33 s33 => ?_
  have t33 := ((sub_ins _ _ hb32).trans s33)
  replace hG := GlobH.up hG t33
  replace hz := NumH.up hz t33
  replace hga := GatesH.up hga t33
  replace l1 := IntsC.up l1 t33
  replace l2 := NumH.up l2 t33
  replace l3 := IntsC.up l3 t33
  replace l4 := NumH.up l4 t33
  replace l5 := rdu3 l5 t33
  replace l6 := rdu3 l6 t33
  replace hgb := GatesH.up hgb t33
  replace hv2 := NumH.up hv2 t33
  replace hgc := GatesH.up hgc t33
  replace hbv := NumH.up hbv t33
  replace r1 := IntsC.up r1 t33
  replace r2 := NumH.up r2 t33
  replace r3 := IntsC.up r3 t33
  replace r4 := NumH.up r4 t33
  replace r5 := rdu3 r5 t33
  replace r6 := rdu3 r6 t33
  replace q1 := IntsC.up q1 t33
  replace q2 := NumH.up q2 t33
  replace q3 := IntsC.up q3 t33
  replace q4 := NumH.up q4 t33
  replace q5 := rdu3 q5 t33
  replace q6 := rdu3 q6 t33
  replace gd := GatesH.up gd t33
  have wb32 := t33
  have ib32 : IntsC H33 (sl b32 1) [0] := ints_c (s33 _ _ (ins_same _ _ _))
  conv => whnf
  intro b34 hb34 kb34
  conv => whnf
  refine (d52 1 _ [g1 2] _ (gates1 (g1 := g1 2) (ins_same _ _ _) (IntsC.up ib32 (sub_ins _ _ hb34)))).val fun H35 s35 => ?_
  have t35 := ((sub_ins _ _ hb34).trans s35)
  replace hG := GlobH.up hG t35
  replace hz := NumH.up hz t35
  replace hga := GatesH.up hga t35
  replace l1 := IntsC.up l1 t35
  replace l2 := NumH.up l2 t35
  replace l3 := IntsC.up l3 t35
  replace l4 := NumH.up l4 t35
  replace l5 := rdu3 l5 t35
  replace l6 := rdu3 l6 t35
  replace hgb := GatesH.up hgb t35
  replace hv2 := NumH.up hv2 t35
  replace hgc := GatesH.up hgc t35
  replace hbv := NumH.up hbv t35
  replace r1 := IntsC.up r1 t35
  replace r2 := NumH.up r2 t35
  replace r3 := IntsC.up r3 t35
  replace r4 := NumH.up r4 t35
  replace r5 := rdu3 r5 t35
  replace r6 := rdu3 r6 t35
  replace q1 := IntsC.up q1 t35
  replace q2 := NumH.up q2 t35
  replace q3 := IntsC.up q3 t35
  replace q4 := NumH.up q4 t35
  replace q5 := rdu3 q5 t35
  replace q6 := rdu3 q6 t35
  replace gd := GatesH.up gd t35
  replace ib32 := IntsC.up ib32 t35
  have ge : GatesH H35 (sl b34 1) [g1 2] := gates1 (g1 := g1 2) (s35 _ _ (ins_same _ _ _)) ib32
  conv => whnf
  refine (d37 ⟨1, 0, [g1 1, g1 3]⟩ ⟨1, 0, [g1 2]⟩ (fit_of (by decide) (by decide)) (fit_of (by decide) (by decide)) _ _ _ ⟨_, rfl, (GatesH.up gd (Sub.refl _))⟩ ⟨_, rfl, (GatesH.up ge (Sub.refl _))⟩).val fun H36 s36 => ?_
  have t36 := s36
  replace hG := GlobH.up hG t36
  replace hz := NumH.up hz t36
  replace hga := GatesH.up hga t36
  replace l1 := IntsC.up l1 t36
  replace l2 := NumH.up l2 t36
  replace l3 := IntsC.up l3 t36
  replace l4 := NumH.up l4 t36
  replace l5 := rdu3 l5 t36
  replace l6 := rdu3 l6 t36
  replace hgb := GatesH.up hgb t36
  replace hv2 := NumH.up hv2 t36
  replace hgc := GatesH.up hgc t36
  replace hbv := NumH.up hbv t36
  replace r1 := IntsC.up r1 t36
  replace r2 := NumH.up r2 t36
  replace r3 := IntsC.up r3 t36
  replace r4 := NumH.up r4 t36
  replace r5 := rdu3 r5 t36
  replace r6 := rdu3 r6 t36
  replace q1 := IntsC.up q1 t36
  replace q2 := NumH.up q2 t36
  replace q3 := IntsC.up q3 t36
  replace q4 := NumH.up q4 t36
  replace q5 := rdu3 q5 t36
  replace q6 := rdu3 q6 t36
  replace gd := GatesH.up gd t36
  replace ge := GatesH.up ge t36
  rw [ex_eq]
  conv => whnf
  intro b37 hb37 kb37
  conv => whnf
  refine (d51 4 _ [0] _ (ints_c (ins_same _ _ _))).val fun H38 s38 => ?_
  have t38 := ((sub_ins _ _ hb37).trans s38)
  replace hG := GlobH.up hG t38
  replace hz := NumH.up hz t38
  replace hga := GatesH.up hga t38
  replace l1 := IntsC.up l1 t38
  replace l2 := NumH.up l2 t38
  replace l3 := IntsC.up l3 t38
  replace l4 := NumH.up l4 t38
  replace l5 := rdu3 l5 t38
  replace l6 := rdu3 l6 t38
  replace hgb := GatesH.up hgb t38
  replace hv2 := NumH.up hv2 t38
  replace hgc := GatesH.up hgc t38
  replace hbv := NumH.up hbv t38
  replace r1 := IntsC.up r1 t38
  replace r2 := NumH.up r2 t38
  replace r3 := IntsC.up r3 t38
  replace r4 := NumH.up r4 t38
  replace r5 := rdu3 r5 t38
  replace r6 := rdu3 r6 t38
  replace q1 := IntsC.up q1 t38
  replace q2 := NumH.up q2 t38
  replace q3 := IntsC.up q3 t38
  replace q4 := NumH.up q4 t38
  replace q5 := rdu3 q5 t38
  replace q6 := rdu3 q6 t38
  have wb37 := t38
  have ib37 : IntsC H38 (sl b37 1) [0] := ints_c (s38 _ _ (ins_same _ _ _))
  conv => whnf
  intro b39 hb39 kb39
  conv => whnf
  refine (d52 1 _ [g1 4] _ (gates1 (g1 := g1 4) (ins_same _ _ _) (IntsC.up ib37 (sub_ins _ _ hb39)))).val fun H40 s40 => ?_
  have t40 := ((sub_ins _ _ hb39).trans s40)
  replace hG := GlobH.up hG t40
  replace hz := NumH.up hz t40
  replace hga := GatesH.up hga t40
  replace l1 := IntsC.up l1 t40
  replace l2 := NumH.up l2 t40
  replace l3 := IntsC.up l3 t40
  replace l4 := NumH.up l4 t40
  replace l5 := rdu3 l5 t40
  replace l6 := rdu3 l6 t40
  replace hgb := GatesH.up hgb t40
  replace hv2 := NumH.up hv2 t40
  replace hgc := GatesH.up hgc t40
  replace hbv := NumH.up hbv t40
  replace r1 := IntsC.up r1 t40
  replace r2 := NumH.up r2 t40
  replace r3 := IntsC.up r3 t40
  replace r4 := NumH.up r4 t40
  replace r5 := rdu3 r5 t40
  replace r6 := rdu3 r6 t40
  replace q1 := IntsC.up q1 t40
  replace q2 := NumH.up q2 t40
  replace q3 := IntsC.up q3 t40
  replace q4 := NumH.up q4 t40
  replace q5 := rdu3 q5 t40
  replace q6 := rdu3 q6 t40
  replace ib37 := IntsC.up ib37 t40
  have gd : GatesH H40 (sl b39 1) [g1 4] := gates1 (g1 := g1 4) (s40 _ _ (ins_same _ _ _)) ib37
  conv => whnf
  intro b41 hb41 kb41
  conv => whnf
  refine (d51 1 _ [0] _ (ints_c (ins_same _ _ _))).val fun H42 s42 => ?_
  have t42 := ((sub_ins _ _ hb41).trans s42)
  replace hG := GlobH.up hG t42
  replace hz := NumH.up hz t42
  replace hga := GatesH.up hga t42
  replace l1 := IntsC.up l1 t42
  replace l2 := NumH.up l2 t42
  replace l3 := IntsC.up l3 t42
  replace l4 := NumH.up l4 t42
  replace l5 := rdu3 l5 t42
  replace l6 := rdu3 l6 t42
  replace hgb := GatesH.up hgb t42
  replace hv2 := NumH.up hv2 t42
  replace hgc := GatesH.up hgc t42
  replace hbv := NumH.up hbv t42
  replace r1 := IntsC.up r1 t42
  replace r2 := NumH.up r2 t42
  replace r3 := IntsC.up r3 t42
  replace r4 := NumH.up r4 t42
  replace r5 := rdu3 r5 t42
  replace r6 := rdu3 r6 t42
  replace q1 := IntsC.up q1 t42
  replace q2 := NumH.up q2 t42
  replace q3 := IntsC.up q3 t42
  replace q4 := NumH.up q4 t42
  replace q5 := rdu3 q5 t42
  replace q6 := rdu3 q6 t42
  replace gd := GatesH.up gd t42
  have wb41 := t42
  have ib41 : IntsC H42 (sl b41 1) [0] := ints_c (s42 _ _ (ins_same _ _ _))
  conv => whnf
  intro b43 hb43 kb43
  conv => whnf
  refine (d52 1 _ [g1 1] _ (gates1 (g1 := g1 1) (ins_same _ _ _) (IntsC.up ib41 (sub_ins _ _ hb43)))).val fun H44 s44 => ?_
  have t44 := ((sub_ins _ _ hb43).trans s44)
  replace hG := GlobH.up hG t44
  replace hz := NumH.up hz t44
  replace hga := GatesH.up hga t44
  replace l1 := IntsC.up l1 t44
  replace l2 := NumH.up l2 t44
  replace l3 := IntsC.up l3 t44
  replace l4 := NumH.up l4 t44
  replace l5 := rdu3 l5 t44
  replace l6 := rdu3 l6 t44
  replace hgb := GatesH.up hgb t44
  replace hv2 := NumH.up hv2 t44
  replace hgc := GatesH.up hgc t44
  replace hbv := NumH.up hbv t44
  replace r1 := IntsC.up r1 t44
  replace r2 := NumH.up r2 t44
  replace r3 := IntsC.up r3 t44
  replace r4 := NumH.up r4 t44
  replace r5 := rdu3 r5 t44
  replace r6 := rdu3 r6 t44
  replace q1 := IntsC.up q1 t44
  replace q2 := NumH.up q2 t44
  replace q3 := IntsC.up q3 t44
  replace q4 := NumH.up q4 t44
  replace q5 := rdu3 q5 t44
  replace q6 := rdu3 q6 t44
  replace gd := GatesH.up gd t44
  replace ib41 := IntsC.up ib41 t44
  have ge : GatesH H44 (sl b43 1) [g1 1] := gates1 (g1 := g1 1) (s44 _ _ (ins_same _ _ _)) ib41
  conv => whnf
  refine (d37 ⟨1, 0, [g1 4]⟩ ⟨1, 0, [g1 1]⟩ (fit_of (by decide) (by decide)) (fit_of (by decide) (by decide)) _ _ _ ⟨_, rfl, (GatesH.up gd (Sub.refl _))⟩ ⟨_, rfl, (GatesH.up ge (Sub.refl _))⟩).val fun H45 s45 => ?_
  have t45 := s45
  replace hG := GlobH.up hG t45
  replace hz := NumH.up hz t45
  replace hga := GatesH.up hga t45
  replace l1 := IntsC.up l1 t45
  replace l2 := NumH.up l2 t45
  replace l3 := IntsC.up l3 t45
  replace l4 := NumH.up l4 t45
  replace l5 := rdu3 l5 t45
  replace l6 := rdu3 l6 t45
  replace hgb := GatesH.up hgb t45
  replace hv2 := NumH.up hv2 t45
  replace hgc := GatesH.up hgc t45
  replace hbv := NumH.up hbv t45
  replace r1 := IntsC.up r1 t45
  replace r2 := NumH.up r2 t45
  replace r3 := IntsC.up r3 t45
  replace r4 := NumH.up r4 t45
  replace r5 := rdu3 r5 t45
  replace r6 := rdu3 r6 t45
  replace q1 := IntsC.up q1 t45
  replace q2 := NumH.up q2 t45
  replace q3 := IntsC.up q3 t45
  replace q4 := NumH.up q4 t45
  replace q5 := rdu3 q5 t45
  replace q6 := rdu3 q6 t45
  replace gd := GatesH.up gd t45
  replace ge := GatesH.up ge t45
  rw [ex_ne]
  conv => whnf
  refine W_draw (pol := polAw) Γok mixes [(0, .pendO), (1, .pendO), (2, .pendO), (3, .pendO), (4, .pendO), (5, .pendO), (6, .lock), (7, .lock), (8, .pendO), (9, .pendO), (10, .pendO), (11, .pendO), (12, .pendO), (13, .lock), (14, .lock), (15, .pendO), (16, .pendO), (17, .pendO), (18, .pendO), (19, .pendO), (20, .pendO), (21, .lock), (22, .lock), (23, .pendO), (24, .pendO), (25, .pendO), (26, .pendO), (27, .pendO), (28, .pendO), (29, .pendO), (30, .pendO), (31, .pendO), (32, .pendO), (33, .pendO), (34, .pendO), (35, .pendO), (36, .pendO), (37, .pendO), (38, .pendO), (39, .pendO), (40, .pendO), (41, .pendO), (42, .pendO), (43, .pendO), (44, .lock), (45, .lock), (46, .pendO), (47, .pendO), (48, .pendO), (49, .pendO), (50, .pendO), (51, .pendO), (52, .pendO), (53, .pendO), (54, .pendO), (55, .pendO), (56, .pendO), (57, .pendO), (58, .pendO), (59, .pendO), (60, .pendO), (61, .pendO), (62, .pendO), (63, .lock), (64, .lock), (65, .pendO), (66, .pendO), (67, .pendO), (68, .pendO), (69, .pendO), (70, .pendO), (71, .pendO), (72, .pendO), (73, .lock), (74, .lock), (75, .pendO), (76, .pendO), (77, .pendO), (78, .pendO), (79, .pendO), (80, .pendO), (81, .pendO), (82, .pendO), (83, .lock), (84, .lock), (85, .pendO), (86, .pendO)] 239 (by kernel_rfl) rfl ?_
  conv => whnf
  refine ⟨_, Rd.anyO (O := emp) (GlobH.up hG (Sub.refl _)).1, ?_⟩
  conv => whnf
  refine ⟨_, Rd.anyO (O := emp) (GlobH.up hG (Sub.refl _)).1, ?_⟩
  conv => whnf
  intro b46 hb46 kb46
  conv => whnf
  refine (c48t [nr, n0, n0, nr] [nr, n0, n0, nr] (by kernel_rfl) (by simp) _ _ _ (NumH.up hv2 (sub_ins _ _ hb46)) (quad_num (ins_same _ _ _))).val fun H47 s47 => ?_
  have t47 := ((sub_ins _ _ hb46).trans s47)
  replace hG := GlobH.up hG t47
  replace hz := NumH.up hz t47
  replace hga := GatesH.up hga t47
  replace l1 := IntsC.up l1 t47
  replace l2 := NumH.up l2 t47
  replace l3 := IntsC.up l3 t47
  replace l4 := NumH.up l4 t47
  replace l5 := rdu3 l5 t47
  replace l6 := rdu3 l6 t47
  replace hgb := GatesH.up hgb t47
  replace hv2 := NumH.up hv2 t47
  replace hgc := GatesH.up hgc t47
  replace hbv := NumH.up hbv t47
  replace r1 := IntsC.up r1 t47
  replace r2 := NumH.up r2 t47
  replace r3 := IntsC.up r3 t47
  replace r4 := NumH.up r4 t47
  replace r5 := rdu3 r5 t47
  replace r6 := rdu3 r6 t47
  replace q1 := IntsC.up q1 t47
  replace q2 := NumH.up q2 t47
  replace q3 := IntsC.up q3 t47
  replace q4 := NumH.up q4 t47
  replace q5 := rdu3 q5 t47
  replace q6 := rdu3 q6 t47
  conv => whnf
  refine ⟨_, Rd_part (l5 _ _ (Sub.refl _)) 0 1 (by omega) rfl, ?_⟩
  conv => whnf
  intro b48 hb48 kb48
  conv => whnf
  refine (c25t [0, 0] [0, 0] rfl (by simp) _ _ _ (IntsC.h (IntsC.up l1 (sub_ins _ _ hb48))) (IntsC.h (ints_c (ins_same _ _ _)))).val fun H49 s49 => ?_
  have t49 := ((sub_ins _ _ hb48).trans s49)
  replace hG := GlobH.up hG t49
  replace hz := NumH.up hz t49
  replace hga := GatesH.up hga t49
  replace l1 := IntsC.up l1 t49
  replace l2 := NumH.up l2 t49
  replace l3 := IntsC.up l3 t49
  replace l4 := NumH.up l4 t49
  replace l5 := rdu3 l5 t49
  replace l6 := rdu3 l6 t49
  replace hgb := GatesH.up hgb t49
  replace hv2 := NumH.up hv2 t49
  replace hgc := GatesH.up hgc t49
  replace hbv := NumH.up hbv t49
  replace r1 := IntsC.up r1 t49
  replace r2 := NumH.up r2 t49
  replace r3 := IntsC.up r3 t49
  replace r4 := NumH.up r4 t49
  replace r5 := rdu3 r5 t49
  replace r6 := rdu3 r6 t49
  replace q1 := IntsC.up q1 t49
  replace q2 := NumH.up q2 t49
  replace q3 := IntsC.up q3 t49
  replace q4 := NumH.up q4 t49
  replace q5 := rdu3 q5 t49
  replace q6 := rdu3 q6 t49
  conv => whnf
  refine ⟨_, Rd_part (l6 _ _ (Sub.refl _)) 0 1 (by omega) rfl, ?_⟩
  conv => whnf
  intro b50 hb50 kb50
  conv => whnf
  refine (c25t [1, 1] [1, 1] rfl (by simp) _ _ _ (IntsC.h (IntsC.up l3 (sub_ins _ _ hb50))) (IntsC.h (ints_c (ins_same _ _ _)))).val fun H51 s51 => ?_
  have t51 := ((sub_ins _ _ hb50).trans s51)
  replace hG := GlobH.up hG t51
  replace hz := NumH.up hz t51
  replace hga := GatesH.up hga t51
  replace l1 := IntsC.up l1 t51
  replace l2 := NumH.up l2 t51
  replace l3 := IntsC.up l3 t51
  replace l4 := NumH.up l4 t51
  replace l5 := rdu3 l5 t51
  replace l6 := rdu3 l6 t51
  replace hgb := GatesH.up hgb t51
  replace hv2 := NumH.up hv2 t51
  replace hgc := GatesH.up hgc t51
  replace hbv := NumH.up hbv t51
  replace r1 := IntsC.up r1 t51
  replace r2 := NumH.up r2 t51
  replace r3 := IntsC.up r3 t51
  replace r4 := NumH.up r4 t51
  replace r5 := rdu3 r5 t51
  replace r6 := rdu3 r6 t51
  replace q1 := IntsC.up q1 t51
  replace q2 := NumH.up q2 t51
  replace q3 := IntsC.up q3 t51
  replace q4 := NumH.up q4 t51
  replace q5 := rdu3 q5 t51
  replace q6 := rdu3 q6 t51
  conv => whnf
  refine ⟨_, Rd_part (l5 _ _ (Sub.refl _)) 1 1 (by omega) rfl, ?_⟩
  conv => whnf
  refine ⟨_, Rd_part (l6 _ _ (Sub.refl _)) 1 1 (by omega) rfl, ?_⟩
  conv => whnf
  refine ⟨_, Rd.anyO (O := emp) (GlobH.up hG (Sub.refl _)).2, ?_⟩
  conv => whnf
  refine ⟨_, Rd.anyO (O := emp) (GlobH.up hG (Sub.refl _)).2, ?_⟩
  conv => whnf
  intro b52 hb52 kb52
  conv => whnf
  refine (c48t [nh, n0, n0, nh] [nh, n0, n0, nh] (by kernel_rfl) (by simp) _ _ _ (NumH.up hbv (sub_ins _ _ hb52)) (quad_num (ins_same _ _ _))).val fun H53 s53 => ?_
  have t53 := ((sub_ins _ _ hb52).trans s53)
  replace hG := GlobH.up hG t53
  replace hz := NumH.up hz t53
  replace hga := GatesH.up hga t53
  replace l1 := IntsC.up l1 t53
  replace l2 := NumH.up l2 t53
  replace l3 := IntsC.up l3 t53
  replace l4 := NumH.up l4 t53
  replace l5 := rdu3 l5 t53
  replace l6 := rdu3 l6 t53
  replace hgb := GatesH.up hgb t53
  replace hv2 := NumH.up hv2 t53
  replace hgc := GatesH.up hgc t53
  replace hbv := NumH.up hbv t53
  replace r1 := IntsC.up r1 t53
  replace r2 := NumH.up r2 t53
  replace r3 := IntsC.up r3 t53
  replace r4 := NumH.up r4 t53
  replace r5 := rdu3 r5 t53
  replace r6 := rdu3 r6 t53
  replace q1 := IntsC.up q1 t53
  replace q2 := NumH.up q2 t53
  replace q3 := IntsC.up q3 t53
  replace q4 := NumH.up q4 t53
  replace q5 := rdu3 q5 t53
  replace q6 := rdu3 q6 t53
  conv => whnf
  refine ⟨_, Rd.anyO (O := emp) (GlobH.up hG (Sub.refl _)).2, ?_⟩
  conv => whnf
  refine ⟨_, Rd_part (r6 _ _ (Sub.refl _)) 2 1 (by omega) rfl, ?_⟩
  conv => whnf
  refine ⟨_, Rd.anyO (O := emp) (GlobH.up hG (Sub.refl _)).1, ?_⟩
  conv => whnf
  intro b54 hb54 kb54
  conv => whnf
  refine (c48t [nr, n0] [nr, n0] (by kernel_rfl) (by simp) _ _ _ (NumH.up r4 (sub_ins _ _ hb54)) (pair_num (x := nr) (y := n0) (ins_same _ _ _))).val fun H55 s55 => ?_
  have t55 := ((sub_ins _ _ hb54).trans s55)
  replace hG := GlobH.up hG t55
  replace hz := NumH.up hz t55
  replace hga := GatesH.up hga t55
  replace l1 := IntsC.up l1 t55
  replace l2 := NumH.up l2 t55
  replace l3 := IntsC.up l3 t55
  replace l4 := NumH.up l4 t55
  replace l5 := rdu3 l5 t55
  replace l6 := rdu3 l6 t55
  replace hgb := GatesH.up hgb t55
  replace hv2 := NumH.up hv2 t55
  replace hgc := GatesH.up hgc t55
  replace hbv := NumH.up hbv t55
  replace r1 := IntsC.up r1 t55
  replace r2 := NumH.up r2 t55
  replace r3 := IntsC.up r3 t55
  replace r4 := NumH.up r4 t55
  replace r5 := rdu3 r5 t55
  replace r6 := rdu3 r6 t55
  replace q1 := IntsC.up q1 t55
  replace q2 := NumH.up q2 t55
  replace q3 := IntsC.up q3 t55
  replace q4 := NumH.up q4 t55
  replace q5 := rdu3 q5 t55
  replace q6 := rdu3 q6 t55
  conv => whnf
  refine ⟨_, Rd_part (q5 _ _ (Sub.refl _)) 2 1 (by omega) rfl, ?_⟩
  conv => whnf
  refine ⟨_, Rd.anyO (O := emp) (GlobH.up hG (Sub.refl _)).1, ?_⟩
  conv => whnf
  intro b56 hb56 kb56
  conv => whnf
  refine (c48t [nr, n0] [nr, n0] (by kernel_rfl) (by simp) _ _ _ (NumH.up q2 (sub_ins _ _ hb56)) (pair_num (x := nr) (y := n0) (ins_same _ _ _))).val fun H57 s57 => ?_
  have t57 := ((sub_ins _ _ hb56).trans s57)
  replace hG := GlobH.up hG t57
  replace hz := NumH.up hz t57
  replace hga := GatesH.up hga t57
  replace l1 := IntsC.up l1 t57
  replace l2 := NumH.up l2 t57
  replace l3 := IntsC.up l3 t57
  replace l4 := NumH.up l4 t57
  replace l5 := rdu3 l5 t57
  replace l6 := rdu3 l6 t57
  replace hgb := GatesH.up hgb t57
  replace hv2 := NumH.up hv2 t57
  replace hgc := GatesH.up hgc t57
  replace hbv := NumH.up hbv t57
  replace r1 := IntsC.up r1 t57
  replace r2 := NumH.up r2 t57
  replace r3 := IntsC.up r3 t57
  replace r4 := NumH.up r4 t57
  replace r5 := rdu3 r5 t57
  replace r6 := rdu3 r6 t57
  replace q1 := IntsC.up q1 t57
  replace q2 := NumH.up q2 t57
  replace q3 := IntsC.up q3 t57
  replace q4 := NumH.up q4 t57
  replace q5 := rdu3 q5 t57
  replace q6 := rdu3 q6 t57
  conv => whnf
  refine ⟨_, Rd_part (q6 _ _ (Sub.refl _)) 2 1 (by omega) rfl, ?_⟩
  conv => whnf
  refine ⟨_, Rd.anyO (O := emp) (GlobH.up hG (Sub.refl _)).1, ?_⟩
  conv => whnf
  intro b58 hb58 kb58
  conv => whnf
  refine (c48t [nr, n0] [nr, n0] (by kernel_rfl) (by simp) _ _ _ (NumH.up q4 (sub_ins _ _ hb58)) (pair_num (x := nr) (y := n0) (ins_same _ _ _))).val fun H59 s59 => ?_
  have t59 := ((sub_ins _ _ hb58).trans s59)
  replace hG := GlobH.up hG t59
  replace hz := NumH.up hz t59
  replace hga := GatesH.up hga t59
  replace l1 := IntsC.up l1 t59
  replace l2 := NumH.up l2 t59
  replace l3 := IntsC.up l3 t59
  replace l4 := NumH.up l4 t59
  replace l5 := rdu3 l5 t59
  replace l6 := rdu3 l6 t59
  replace hgb := GatesH.up hgb t59
  replace hv2 := NumH.up hv2 t59
  replace hgc := GatesH.up hgc t59
  replace hbv := NumH.up hbv t59
  replace r1 := IntsC.up r1 t59
  replace r2 := NumH.up r2 t59
  replace r3 := IntsC.up r3 t59
  replace r4 := NumH.up r4 t59
  replace r5 := rdu3 r5 t59
  replace r6 := rdu3 r6 t59
  replace q1 := IntsC.up q1 t59
  replace q2 := NumH.up q2 t59
  replace q3 := IntsC.up q3 t59
  replace q4 := NumH.up q4 t59
  replace q5 := rdu3 q5 t59
  replace q6 := rdu3 q6 t59
  conv => whnf
end Go.Proofs.YtmhnalikebkhjaaGreatDoor


namespace Go.Proofs.YtmhnalikebkhjaaGreatDoor
open Go.Proofs.YtmhnalikebkhjaaGreatDoor.X Go.Proofs.YtmhnalikebkhjaaGreatDoor.X.PH
set_option maxRecDepth 100000

theorem bne_no {a : Int} : ¬ (a != a) = true := by simp
end Go.Proofs.YtmhnalikebkhjaaGreatDoor


namespace Go.Proofs.YtmhnalikebkhjaaGreatDoor
open Go.Proofs.YtmhnalikebkhjaaGreatDoor.X Go.Proofs.YtmhnalikebkhjaaGreatDoor.X.PH
set_option maxRecDepth 100000

theorem seq_stop {Γ : TypeId → TI} {P : Program} {r : Option Nat} {pol : Tmp → Pol} {a b : Code} {s : S} {K : Exit → S → Prop}
    (h : ∀ K1 : S → Prop, (∀ s', codeK Γ P r pol b s' K = K1 s') → codeK Γ P r pol a s fun e s' => match e with
      | .normal => K1 s'
      | e => K e s') : codeK Γ P r pol (.seq a b) s K := h _ fun _ => rfl
theorem OwnS.clear {O : PH} {sz : Nat} {t : TypeId} {v : Value} {xs : List (List Value)} {z : List Value} {K : PH → Prop} (h : OwnS O sz t v xs) (hz : z.length = sz) (hone : ∀ x ∈ z, x.oneCell' = true)
    (k : ∀ O', (∀ n o, O n = some o → (∀ cap, v ≠ .slice (some ⟨n, 0, none⟩) xs.length cap) → O' n = some o) → K O') : Go.Proofs.YtmhnalikebkhjaaGreatDoor.X.clearK O sz z v K := by
  obtain ⟨h1, h⟩ := h
  unfold Go.Proofs.YtmhnalikebkhjaaGreatDoor.X.clearK
  rcases h with ⟨rfl, h⟩ | ⟨b, cap, spare, rfl, hO, hcap, hsp⟩
  · refine ⟨none, 0, 0, rfl, hz, hone, fun _ => k _ fun n o hn _ => hn, fun a h => by cases h⟩
  · refine ⟨some ⟨b, 0, none⟩, _, cap, rfl, hz, hone, fun _ => k _ fun n o hn _ => hn, fun a h _ => ?_⟩
    cases h
    refine ⟨b, 0, _, _, rfl, hO, ?_, k _ fun n o hn hne => (ins_ne _ _ fun e => hne cap (by rw [e])).trans hn⟩
    rw [List.length_append, flat_length h1]
    omega
theorem un_left (H O : PH) : Sub H (un H O) := fun n o h => by simp [un, h]
/-- Two slices of one's own do not lie in one block. -/
def ApS (a : Value) (la : Nat) (b : Value) : Prop := ∀ n cap, a = .slice (some ⟨n, 0, none⟩) la cap → ∀ lb cap', b ≠ .slice (some ⟨n, 0, none⟩) lb cap'
theorem ap_parts {O M R : PH} {t t' : TypeId} {sz sz' : Nat} {a b : Value} {xs ys : List (List Value)} (hp : Parts O M R) (ha : OwnS R sz t a xs) (hb : OwnS M sz' t' b ys) : ApS a xs.length b := by
  intro n cap ea lb cap' eb
  rcases ha.2 with ⟨e, _⟩ | ⟨n1, c1, s1, e, h1, _⟩
  · rw [ea] at e; cases e
  rcases hb.2 with ⟨e', _⟩ | ⟨n2, c2, s2, e', h2, _⟩
  · rw [eb] at e'; cases e'
  rw [ea] at e; cases e
  rw [eb] at e'; cases e'
  rcases hp.dis n with h | h
  · rw [h2] at h; cases h
  · rw [h1] at h; cases h
theorem OwnS.kept {O O' : PH} {t : TypeId} {sz : Nat} {a b : Value} {la : Nat} {ys : List (List Value)} (hb : OwnS O sz t b ys) (hap : ApS a la b) (hk : ∀ n o, O n = some o → (∀ cap, a ≠ .slice (some ⟨n, 0, none⟩) la cap) → O' n = some o) : OwnS O' sz t b ys := by
  refine ⟨hb.1, ?_⟩
  rcases hb.2 with h | ⟨n2, c2, s2, e', h2, q⟩
  · exact .inl h
  · exact .inr ⟨n2, c2, s2, e', hk _ _ h2 fun cap ea => hap n2 cap ea _ _ e', q⟩
end Go.Proofs.YtmhnalikebkhjaaGreatDoor


namespace Go.Proofs.YtmhnalikebkhjaaGreatDoor
open Go.Proofs.YtmhnalikebkhjaaGreatDoor.X Go.Proofs.YtmhnalikebkhjaaGreatDoor.X.PH
set_option maxRecDepth 100000

theorem VecA.blk {O : PH} {v : Value} {l : Vec} {ob : Option Nat} (h : VecA O v l ob) : (ob = none ∧ v = .slice none 0 0 ∧ l = []) ∨ ∃ b cap c, ob = some b ∧ v = .slice (some ⟨b, 0, none⟩) l.length cap ∧ O b = some (.cells c 32 (0, 0)) := by
  rcases h.2 with ⟨a, b, c⟩ | ⟨b, cap, sp, a, e, h, _⟩
  · exact .inl ⟨a, b, by simpa using c⟩
  · exact .inr ⟨b, cap, _, a, by rw [List.length_map] at e; exact e, h⟩
theorem VecA.kept {O O' : PH} {v u : Value} {l k : Vec} {oa ob : Option Nat} (hv : VecA O v l oa) (hu : VecA O u k ob) (hap : Ap oa ob) (hk : ∀ n o, O n = some o → (∀ cap, v ≠ .slice (some ⟨n, 0, none⟩) (l.map cellsOf).length cap) → O' n = some o) : VecA O' u k ob := by
  refine ⟨hu.1, ?_⟩
  rcases hu.2 with h | ⟨b, cap, sp, a, e, h, q⟩
  · exact .inl h
  · refine .inr ⟨b, cap, sp, a, e, hk _ _ h fun c ev => ?_, q⟩
    rcases VecA.blk hv with ⟨_, e2, _⟩ | ⟨b2, c2, _, a2, e2, _⟩
    · rw [e2] at ev; cases ev
    · rw [e2] at ev
      have eb : b2 = b := by simpa using (Value.slice.inj ev).1
      rw [eb] at a2
      exact hap _ a2 a
theorem fit_great {c : Ct} (h : greatC c = false) : c.fit := by
  unfold greatC at h
  rw [Bool.or_eq_false_iff] at h
  obtain ⟨h1, h2⟩ := h
  refine ⟨?_, fun g hg => ?_⟩
  · have := of_decide_eq_false h1
    omega
  · have := List.any_eq_false.1 h2 g hg
    unfold bigG at this
    simp at this
    omega
/-- A matrix of one's own, whose rows have grown. -/
def OwnR (M : PH) (u : Value) (m : Mx) : Prop := (u = .slice none 0 0 ∧ m = []) ∨ ∃ b0 rvs obs, u = .slice (some ⟨b0, 0, none⟩) m.length m.length ∧ RowsA M b0 rvs m obs
theorem OwnR.sl {M : PH} {u : Value} {m : Mx} (h : OwnR M u m) : ∃ b n c, u = .slice b n c := by
  rcases h with ⟨rfl, _⟩ | ⟨b0, _, _, rfl, _⟩
  · exact ⟨_, _, _, rfl⟩
  · exact ⟨_, _, _, rfl⟩
theorem OwnR.up {M M' : PH} {u : Value} {m : Mx} (h : OwnR M u m) (hs : Sub M M') : OwnR M' u m := by
  rcases h with h | ⟨b0, rvs, obs, e, h⟩
  · exact .inl h
  · exact .inr ⟨b0, rvs, obs, e, h.up hs⟩
theorem OwnR.mat {H M : PH} {u : Value} {m : Mx} (h : OwnR M u m) (hd : Dis H M) : MatH (un H M) u m := by
  rcases h with ⟨rfl, rfl⟩ | ⟨b0, rvs, obs, rfl, h⟩
  · exact nilM _
  · exact h.mat hd rfl
theorem d22t (c : Ct) (hc : c.fit) (H : PH) (u v : Value) (hu : CircH H u c) (hv : CircH H v c) : Cl Tryz.prog 22 [u, v] H emp fun r _ _ => r = .bool true := by
  have := d22 c c hc H u v hu hv
  rwa [decide_eq_true rfl, beq_self_eq_true, beq_self_eq_true] at this
end Go.Proofs.YtmhnalikebkhjaaGreatDoor


namespace Go.Proofs.YtmhnalikebkhjaaGreatDoor
open Go.Proofs.YtmhnalikebkhjaaGreatDoor.X Go.Proofs.YtmhnalikebkhjaaGreatDoor.X.PH
set_option maxRecDepth 100000

theorem next_outs_le (b : Br) (g : Gt) (o : Int) : (nextB b g o).1.outs.length ≤ b.outs.length + 1 := by
  by_cases h : isM g = true
  · rw [next_outs h]; simp
  · rw [next_outs_un (by simpa using h)]; omega
theorem run_outs : ∀ (gs : List Gt) (b : Br), ∀ x ∈ (runB gs b).1, x.outs.length ≤ b.outs.length + gs.length
  | [], b, x, hx => by
    unfold runB at hx
    split at hx
    · cases hx
    · rw [List.mem_singleton] at hx
      rw [hx]; simp
  | g :: gs, b, x, hx => by
    have hn := fun o => next_outs_le b g o
    have hs : ∀ o, ∀ x ∈ (subR (runB gs) b g o).1, x.outs.length ≤ b.outs.length + (gs.length + 1) := fun o x hx => by
      unfold subR at hx
      split at hx
      · cases hx
      split at hx
      · cases hx
      · have := run_outs gs _ x hx
        have := hn o
        omega
    unfold runB at hx
    rw [List.length_cons]
    split at hx
    · split at hx
      · cases hx
      · have := run_outs gs _ x hx
        have := hn 0
        omega
    split at hx
    · cases hx
    split at hx
    · cases hx
    · rcases List.mem_append.1 hx with h | h
      · exact hs 0 x h
      · exact hs 1 x h
theorem run_facts (c : Ct) (v : Vec) : ∀ b ∈ (runR c v).1, b.outs.length ≤ 200 ∧ b.state.length ≤ 64 := by
  intro b hb
  by_cases he : beginErr c v ≠ 0
  · unfold runR at hb
    rw [if_pos he] at hb
    cases hb
  have he : beginErr c v = 0 := by simpa using he
  obtain ⟨n, m, hok⟩ := run_ok he
  obtain ⟨e1, e2, e3⟩ := runE_eq he hok
  obtain ⟨p1, p2⟩ := pow6 hok.n6
  by_cases h0 : (runR c v).2 = 0
  · constructor
    · have h2 := hb
      unfold runR at h2
      rw [if_neg (by rw [he]; simp)] at h2
      have := run_outs _ _ b h2
      have hl := hok.len
      have hz : (startB v).outs.length = 0 := rfl
      omega
    · rw [← e2 h0] at hb
      have := (ev_mem c.gates (startB v) 0 hok.gates hok.start hok.startBit b hb).2.1
      omega
  · rw [e3 h0] at hb
    cases hb
theorem steps_len (l : List Int) : ∀ (gs : List Gt) (b : Br), (stepsB l gs b).1.outs.length ≤ b.outs.length + gs.length
  | [], b => Nat.le_refl _
  | g :: gs, b => by
    unfold stepsB
    split
    · simp [br0]
    · have := steps_len l gs (nextB b g (l.getD b.outs.length 0)).1
      have := next_outs_le b g (l.getD b.outs.length 0)
      rw [List.length_cons]
      omega
theorem along_facts (c : Ct) (v : Vec) (l : List Int) : (alongR c v l).1.outs.length ≤ 200 ∧ (alongR c v l).1.state.length ≤ 64 := by
  unfold alongR
  by_cases he : beginErr c v ≠ 0
  · rw [if_pos he]; exact ⟨Nat.zero_le _, Nat.zero_le _⟩
  have he' : beginErr c v = 0 := by simpa using he
  obtain ⟨n, m, hok⟩ := run_ok he'
  obtain ⟨p1, p2⟩ := pow6 hok.n6
  rw [if_neg he]
  split
  · exact ⟨Nat.zero_le _, Nat.zero_le _⟩
  split
  · exact ⟨Nat.zero_le _, Nat.zero_le _⟩
  split
  · exact ⟨Nat.zero_le _, Nat.zero_le _⟩
  rename_i hs
  split
  · exact ⟨Nat.zero_le _, Nat.zero_le _⟩
  · have h1 := steps_len l c.gates (startB v)
    have h2 := (steps_ok l c.gates (startB v) 0 hok.gates hok.start (by simpa using hs)).1
    have hl := hok.len
    have hz : (startB v).outs.length = 0 := rfl
    dsimp only
    omega
/-- A branch whose lists are one's own. -/
def BrM (M : PH) (b : Br) (c : List Value) : Prop := ∃ ov sv, c = [ov, .int .i64 b.bits, sv] ∧ IntsO M ov b.outs ∧ NumO M sv b.state
def ApB (a : Br) (c c' : List Value) : Prop := ∀ ov sv k ov' sv' k', c = [ov, k, sv] → c' = [ov', k', sv'] → ApS ov a.outs.length ov' ∧ ApS sv a.state.length sv'
/-- Branches of one's own, apart from one another. -/
structure OwnBs (M : PH) (u : Value) (bs : List Br) (cs : List (List Value)) : Prop where
  list : OwnS M 3 47 u cs
  len : cs.length = bs.length
  at_ : ∀ (j : Nat) b c, bs[j]? = some b → cs[j]? = some c → BrM M b c
  ap : ∀ (i j : Nat) b c c', i < j → bs[i]? = some b → cs[i]? = some c → cs[j]? = some c' → ApB b c c'
theorem ap_new {H0 Hp H : PH} {t t' : TypeId} {sz sz' : Nat} {a b : Value} {xs ys : List (List Value)} (ha : OwnS (newH H0 Hp) sz t a xs) (hb : OwnS (newH Hp H) sz' t' b ys) : ApS a xs.length b := by
  intro n cap ea lb cap' eb
  rcases ha.2 with ⟨e, _⟩ | ⟨n1, c1, s1, e, h1, _⟩
  · rw [ea] at e; cases e
  rcases hb.2 with ⟨e', _⟩ | ⟨n2, c2, s2, e', h2, _⟩
  · rw [eb] at e'; cases e'
  rw [ea] at e; cases e
  rw [eb] at e'; cases e'
  have h3 := newH_sub _ _ _ _ h1
  unfold newH at h2
  rw [h3] at h2
  cases h2
theorem d16w (c : Ct) (v : Vec) (gs : Value) (hfit : c.fit) (hv : v.length ≤ 100000) (H : PH) (y : Value) (hx : GatesH H gs c.gates) (hy : NumH H y v) : Cl Tryz.prog 16 [cv c gs, y] H emp fun r _ M' => ∃ u cs, r = .tuple #[u, .int .i64 (runR c v).2] ∧ OwnBs M' u (runR c v).1 cs :=
  (Cl.own (d16 c v gs hfit hv H y hx hy)).mono fun r H2 M2 _ h => by
    obtain ⟨rfl, H', M', ⟨u, cs, e, h1, h2⟩, hs, _, hM, hN⟩ := h
    have hsub : Sub (newH H2 H') M2 := fun n o hn => by
      unfold newH at hn
      cases e : H2 n with
      | some _ => rw [e] at hn; cases hn
      | none => rw [e] at hn; exact hN n o e hn
    refine ⟨u, cs, e, OwnS.upS h1 hM, h2.1, fun j b c hb hc => ?_, fun i j b d0 c' hij hb hc hc' => ?_⟩
    · obtain ⟨ov, sv, e, a1, a2⟩ := h2.at hb hc
      exact ⟨ov, sv, e, OwnS.upS a1 hsub, OwnS.upS a2 hsub⟩
    · have hj : j < (runR c v).1.length := by rw [← h2.1]; exact (List.getElem?_eq_some_iff.1 hc').1
      obtain ⟨Hp, q1, q2, q3, q4⟩ := h2.2 j _ c' (List.getElem?_eq_getElem hj) hc'
      obtain ⟨ov', sv', e', b1, b2⟩ := q3
      obtain ⟨ov, sv, e2, a1, a2⟩ := q4 i b d0 hij hb hc
      intro xo xs k xo' xs' k' ex ex'
      rw [ex] at e2
      rw [ex'] at e'
      cases e2
      cases e'
      have r1 := ap_new a1 b1
      have r2 := ap_new a2 b2
      rw [List.length_map] at r1 r2
      exact ⟨r1, r2⟩
theorem d17w (c : Ct) (v : Vec) (l : List Int) (gs : Value) (hfit : c.fit) (hv : v.length ≤ 100000) (hl : l.length ≤ 100000) (H : PH) (y z : Value) (hx : GatesH H gs c.gates) (hy : NumH H y v) (hz : IntsC H z l) : Cl Tryz.prog 17 [cv c gs, y, z] H emp fun r _ M' => ∃ c', r = .tuple #[.agg ⟨c'⟩, .int .i64 (alongR c v l).2] ∧ BrM M' (alongR c v l).1 c' :=
  (Cl.own (d17 c v l gs hfit hv hl H y z hx hy hz)).mono fun r H2 M2 _ h => by
    obtain ⟨rfl, H', M', ⟨c', e, ov, sv, e2, a1, a2⟩, hs, _, hM, hN⟩ := h
    have hsub : Sub (newH H2 H') M2 := fun n o hn => by
      unfold newH at hn
      cases e : H2 n with
      | some _ => rw [e] at hn; cases hn
      | none => rw [e] at hn; exact hN n o e hn
    exact ⟨c', e, ov, sv, e2, OwnS.upS a1 hsub, OwnS.upS a2 hsub⟩
theorem IntsO.share {H M : PH} {v : Value} {l : List Int} (h : IntsO M v l) (hd : Dis H M) : IntsC (un H M) v l := by
  have h2 : IntsW emp (un H M) v l := OwnS.upS h fun n o hn => newH_some rfl (un_right hd hn)
  exact IntsW.c h2
theorem same_refl (a : Br) : sameB a a = true := by
  unfold sameB
  rw [eqL_refl]
  simp
theorem d19o {a : Br} {H O : PH} {x y : List Value} (ho : a.outs.length ≤ 200) (hs : a.state.length ≤ 64) (hx : BrM O a x) (hy : BrC H a y) : Cl Tryz.prog 19 [.agg ⟨x⟩, .agg ⟨y⟩] H O fun r _ O' => r = .bool true ∧ Sub O O' :=
  (Cl.share' (d19 br0 br0 (by simp [br0]) (by simp [br0]) emp _ _ (BrC.zero emp) (BrC.zero emp)).ent fun hd => by
    obtain ⟨ov, sv, e, h1, h2⟩ := hx
    have := d19 a a (by omega) (by omega) (un H O) x y ⟨ov, sv, e, IntsO.share h1 hd, NumO.share h2 hd⟩ (hy.up (un_left H O))
    rwa [same_refl] at this).mono fun _ _ _ _ h => ⟨h.2, h.1⟩
/-- A slice of another type lies elsewhere. -/
theorem ap_type {O : PH} {t t' : TypeId} {sz sz' : Nat} {a b : Value} {xs ys : List (List Value)} (ha : OwnS O sz t a xs) (hb : OwnS O sz' t' b ys) (ht : t ≠ t') : ApS a xs.length b := by
  intro n cap ea lb cap' eb
  rcases ha.2 with ⟨e, _⟩ | ⟨n1, c1, s1, e, h1, _⟩
  · rw [ea] at e; cases e
  rcases hb.2 with ⟨e', _⟩ | ⟨n2, c2, s2, e', h2, _⟩
  · rw [eb] at e'; cases e'
  rw [ea] at e; cases e
  rw [eb] at e'; cases e'
  have e := Option.some.inj (h1.symm.trans h2)
  exact ht (Obj.cells.inj e).2.1
end Go.Proofs.YtmhnalikebkhjaaGreatDoor


namespace Go.Proofs.YtmhnalikebkhjaaGreatDoor
open Go.Proofs.YtmhnalikebkhjaaGreatDoor.X Go.Proofs.YtmhnalikebkhjaaGreatDoor.X.PH
set_option maxRecDepth 100000

theorem codeK_exit {Γ : TypeId → TI} {P : Program} {r : Option Nat} {pol : Tmp → Pol} {id : Nat} {s : S} {K : Exit → S → Prop} (h : K (.exit id) s) : codeK Γ P r pol (.exit id) s K := h
theorem BrM.up {M M' : PH} {b : Br} {c : List Value} (h : BrM M b c) (hs : Sub M M') : BrM M' b c := by
  obtain ⟨ov, sv, e, h1, h2⟩ := h
  exact ⟨ov, sv, e, OwnS.upS h1 hs, OwnS.upS h2 hs⟩
/-- What has been cleared does not touch a branch that lies apart. -/
theorem BrM.kept {O O' : PH} {a : Value} {la : Nat} {b : Br} {c : List Value} (h : BrM O b c) (ho : ∀ ov sv k, c = [ov, k, sv] → ApS a la ov ∧ ApS a la sv) (hk : ∀ n o, O n = some o → (∀ cap, a ≠ .slice (some ⟨n, 0, none⟩) la cap) → O' n = some o) : BrM O' b c := by
  obtain ⟨ov, sv, e, h1, h2⟩ := h
  obtain ⟨a1, a2⟩ := ho ov sv _ e
  exact ⟨ov, sv, e, OwnS.kept h1 a1 hk, OwnS.kept h2 a2 hk⟩
theorem BrM.clearS {O O' : PH} {sv : Value} {st : Vec} {b : Br} {c' : List Value} (ha : NumO O sv st) (h : BrM O b c') (hap : ∀ ov' sv' k, c' = [ov', k, sv'] → ApS sv st.length sv') (hk : ∀ n o, O n = some o → (∀ cap, sv ≠ .slice (some ⟨n, 0, none⟩) (st.map cellsOf).length cap) → O' n = some o) : BrM O' b c' := by
  obtain ⟨ov', sv', e, h1, h2⟩ := h
  exact ⟨ov', sv', e, OwnS.kept h1 (ap_type ha h1 (by decide)) hk, OwnS.kept h2 (by rw [List.length_map]; exact hap _ _ _ e) hk⟩
theorem BrM.clearO {O O' : PH} {ov : Value} {os : List Int} {b : Br} {c' : List Value} (ha : IntsO O ov os) (h : BrM O b c') (hap : ∀ ov' sv' k, c' = [ov', k, sv'] → ApS ov os.length ov') (hk : ∀ n o, O n = some o → (∀ cap, ov ≠ .slice (some ⟨n, 0, none⟩) (os.map fun x => [Value.int .i64 x]).length cap) → O' n = some o) : BrM O' b c' := by
  obtain ⟨ov', sv', e, h1, h2⟩ := h
  exact ⟨ov', sv', e, OwnS.kept h1 (by rw [List.length_map]; exact hap _ _ _ e) hk, OwnS.kept h2 (ap_type ha h2 (by decide)) hk⟩
theorem OwnS.rdN {H O : PH} {sz : Nat} {t : TypeId} {base : Option Addr} {n cap : Nat} {xs : List (List Value)} (h : OwnS O sz t (.slice base n cap) xs) {i : Nat} (hi : i < xs.length) : ∃ b, base = some ⟨b, 0, none⟩ ∧ Rd H O ⟨b, 0 + i * sz, none⟩ sz xs[i] := by
  obtain ⟨h1, h2⟩ := h
  rcases h2 with ⟨_, e⟩ | ⟨b, cap', sp, e, hO, _, _⟩
  · rw [e] at hi; cases hi
  · cases e
    refine ⟨b, rfl, rfl, h1 _ (List.getElem_mem hi), _, _, _, .inr hO, ?_⟩
    rw [← flat_at h1 hi, Nat.zero_add]
    show ((xs.flatten ++ sp).drop (i * sz)).take sz = _
    have hle : i * sz + sz ≤ xs.flatten.length := by
      rw [flat_length h1, ← Nat.succ_mul]
      exact Nat.mul_le_mul_right _ hi
    rw [List.drop_append_of_le_length (by omega), List.take_append_of_le_length (by rw [List.length_drop]; omega)]
theorem run_len (c : Ct) (v : Vec) : (runR c v).1.length ≤ 256 := by
  unfold runR
  by_cases he : beginErr c v ≠ 0
  · rw [if_pos he]; exact Nat.zero_le _
  rw [if_neg he]
  obtain ⟨n, m, hok⟩ := run_ok (c := c) (v := v) (by simpa using he)
  exact Nat.le_trans (runB_len c.gates (startB v)) (Nat.pow_le_pow_right (n := 2) (by decide) hok.few)
theorem bitsF_len : ∀ (l : List Br) (acc : Vec), (bitsF acc l).1.length ≤ acc.length
  | [], acc => Nat.le_refl _
  | b :: l, acc => by
    unfold bitsF
    split
    · exact Nat.zero_le _
    · refine Nat.le_trans (bitsF_len l _) ?_
      unfold bstep
      split
      · exact Nat.zero_le _
      split
      · exact Nat.zero_le _
      · rw [List.length_set]; exact Nat.le_refl _
theorem bits_short (c : Ct) (v : Vec) : (bitsR c v).1.length < 9223372036854775808 := by
  unfold bitsR
  split
  · simp
  · rename_i h
    have h0 : (runR c v).2 = 0 := by simpa using h
    obtain ⟨n, m, hok⟩ := run_ok (run_begin h0)
    refine Nat.lt_of_le_of_lt (bitsF_len _ _) ?_
    have hm1 : 2 ^ m ≤ 256 := Nat.pow_le_pow_right (n := 2) (by decide) hok.m8
    rw [hok.bits, Int.toNat_natCast]
    simp [zeros]
    omega
theorem fit_small {c : Ct} {n : Nat} (h : smallB c n = true) : c.fit ∧ n ≤ 66 := by
  unfold smallB at h
  rw [Bool.and_eq_true, Bool.and_eq_true] at h
  obtain ⟨⟨h1, _⟩, h2⟩ := h
  refine ⟨fit_great (by simpa using h1), ?_⟩
  have := of_decide_eq_true h2
  omega
set_option maxHeartbeats 16000000 in
theorem d3 (c : Ct) (v : Vec) (l : List Int) (hc0 : c.gates.length < 9223372036854775808) (hv0 : v.length < 9223372036854775808) (H : PH) (x y z : Value) (hG : GlobH H) (hc : GatesH H x c.gates) (hy : NumH H y v) (hz : IntsC H z l) : Cl Tryz.prog 3 [cv c x, y, z] H emp fun r _ _ => r = .bool true := by
  obtain ⟨xb, xc, rfl⟩ := hc.sl
  obtain ⟨yb, yc, rfl, _⟩ := id hy
  obtain ⟨zb, zc, rfl, _⟩ := id hz
  refine Cl_of (pol := polL) Γok Tryz.func3 (by kernel_rfl) rfl ?_
  conv => whnf
  intro b1
  conv => whnf
  refine (d8 c v hc0 _ _ _ ⟨_, rfl, hc⟩ hy).val fun H2 s2 => ?_
  have t2 := s2
  replace hG := GlobH.up hG t2
  replace hc := GatesH.up hc t2
  replace hy := NumH.up hy t2
  replace hz := IntsC.up hz t2
  conv => whnf
  refine if_intro (fun h1 => ?_) (fun h1 => ?_)
  · conv => whnf
    refine (d9 _ hG).val fun H0 s0 => ?_
    conv => whnf
  obtain ⟨fc, hv66⟩ := fit_small (not_false h1)
  conv => whnf
  refine if_intro (fun h2 => ?_) (fun h2 => ?_)
  · conv => whnf
    refine (d9 _ hG).val fun H0 s0 => ?_
    conv => whnf
  have h2 : l.length ≤ 20 := by have := of_decide_eq_false h2; omega
  conv => whnf
  refine (d10 c fc _ _ ⟨_, rfl, hc⟩).use fun r H3 s3 hr => ?_
  obtain ⟨_, cx, rfl, hx⟩ := hr
  obtain ⟨cxb, cxc, rfl⟩ := hx.sl
  have t3 := s3
  replace hG := GlobH.up hG t3
  replace hc := GatesH.up hc t3
  replace hy := NumH.up hy t3
  replace hz := IntsC.up hz t3
  conv => whnf
  refine (c43' v _ _ hy (by omega)).use fun r H4 s4 hr => ?_
  obtain ⟨_, cy⟩ := hr
  obtain ⟨cyb, cyc, rfl, _⟩ := id cy
  have t4 := s4
  replace hG := GlobH.up hG t4
  replace hc := GatesH.up hc t4
  replace hy := NumH.up hy t4
  replace hz := IntsC.up hz t4
  replace hx := GatesH.up hx t4
  conv => whnf
  refine (c16C l (by omega) _ _ hz.h).use fun r H5 s5 hr => ?_
  obtain ⟨_, cz⟩ := hr
  obtain ⟨czb, czc, rfl, _⟩ := id cz
  have t5 := s5
  replace hG := GlobH.up hG t5
  replace hc := GatesH.up hc t5
  replace hy := NumH.up hy t5
  replace hz := IntsC.up hz t5
  replace hx := GatesH.up hx t5
  replace cy := NumH.up cy t5
  conv => whnf
  intro b6
  conv => whnf
  refine (d13 c v fc (by omega) _ _ _ ⟨_, rfl, hc⟩ hy).use fun r H7 s7 hr => ?_
  obtain ⟨_, ra, rfl, rcs, hra, hrb⟩ := hr
  obtain ⟨rab, rac, rfl⟩ := hra.sl
  have hrl := hrb.1
  have t7 := s7
  replace hG := GlobH.up hG t7
  replace hc := GatesH.up hc t7
  replace hy := NumH.up hy t7
  replace hz := IntsC.up hz t7
  replace hx := GatesH.up hx t7
  replace cy := NumH.up cy t7
  replace cz := IntsC.up cz t7
  conv => whnf
  refine (d14 c v l fc (by omega) (by omega) _ _ _ _ ⟨_, rfl, hc⟩ hy hz.h).use fun r H8 s8 hr => ?_
  obtain ⟨_, u, rfl, ov, sv, rfl, ho1, ho2⟩ := hr
  have hone : BrC _ (alongR c v l).1 [ov, .int .i64 (alongR c v l).1.bits, sv] := ⟨_, _, rfl, ho1, ho2⟩
  obtain ⟨ovb, ovc, rfl, _⟩ := id ho1
  obtain ⟨svb, svc, rfl, _⟩ := id ho2
  have t8 := s8
  replace hG := GlobH.up hG t8
  replace hc := GatesH.up hc t8
  replace hy := NumH.up hy t8
  replace hz := IntsC.up hz t8
  replace hx := GatesH.up hx t8
  replace cy := NumH.up cy t8
  replace cz := IntsC.up cz t8
  replace hra := RecsH.up hra t8
  replace hrb := BrsC.up hrb t8
  conv => whnf
  intro b9
  conv => whnf
  refine (d15 c v fc (by omega) _ _ _ ⟨_, rfl, hc⟩ hy).use fun r H10 s10 hr => ?_
  obtain ⟨_, ba, rfl, hba⟩ := hr
  obtain ⟨bab, bac, rfl, _⟩ := id hba
  have t10 := s10
  replace hG := GlobH.up hG t10
  replace hc := GatesH.up hc t10
  replace hy := NumH.up hy t10
  replace hz := IntsC.up hz t10
  replace hx := GatesH.up hx t10
  replace cy := NumH.up cy t10
  replace cz := IntsC.up cz t10
  replace hra := RecsH.up hra t10
  replace hrb := BrsC.up hrb t10
  replace hone := BrC.up hone t10
  conv => whnf
  refine (d16w c v _ fc (by omega) _ _ hx cy).mono fun r H11 M11 s11 hr => ?_
  obtain ⟨u, cs, rfl, hB⟩ := hr
  obtain ⟨hBl, hBn, hBa, hBp⟩ := hB
  obtain ⟨ub, un1, uc, rfl⟩ := OwnS.sl hBl
  have hul : un1 = cs.length := by
    rcases hBl.2 with ⟨e, e2⟩ | ⟨_, _, _, e, _⟩
    · cases e; rw [e2] <;> rfl
    · cases e; rfl
  subst hul
  have t11 := s11
  replace hG := GlobH.up hG t11
  replace hc := GatesH.up hc t11
  replace hy := NumH.up hy t11
  replace hz := IntsC.up hz t11
  replace hx := GatesH.up hx t11
  replace cy := NumH.up cy t11
  replace cz := IntsC.up cz t11
  replace hra := RecsH.up hra t11
  replace hrb := BrsC.up hrb t11
  replace hone := BrC.up hone t11
  replace hba := NumH.up hba t11
  conv => whnf
  refine ((d17w c v l _ fc (by omega) (by omega) _ _ _ hx cy cz).pure).mono fun r H12 M12 s12 hr => ?_
  obtain ⟨Mb, hp, c2, rfl, o2, s2, rfl, hO1, hO2⟩ := hr
  have hX : ∀ sz t a xs, OwnS _ sz t a xs → ApS a xs.length o2 ∧ ApS a xs.length s2 := fun sz t a xs h => ⟨ap_parts hp h hO1, ap_parts hp h hO2⟩
  have hBa0 := hBa
  replace hBa := fun j b c h1 h2 => (hBa j b c h1 h2).up hp.right
  replace hBl := OwnS.upS hBl hp.right
  obtain ⟨o2b, o2n, o2c, rfl⟩ := OwnS.sl hO1
  obtain ⟨s2b, s2n, s2c, rfl⟩ := OwnS.sl hO2
  have hAl := BrM.up ⟨_, _, rfl, hO1, hO2⟩ hp.left
  have hAl : BrM _ (alongR c v l).1 _ := hAl
  have t12 := s12
  replace hG := GlobH.up hG t12
  replace hc := GatesH.up hc t12
  replace hy := NumH.up hy t12
  replace hz := IntsC.up hz t12
  replace hx := GatesH.up hx t12
  replace cy := NumH.up cy t12
  replace cz := IntsC.up cz t12
  replace hra := RecsH.up hra t12
  replace hrb := BrsC.up hrb t12
  replace hone := BrC.up hone t12
  replace hba := NumH.up hba t12
  conv => whnf
  intro b13
  conv => whnf
  refine (d18 c v _ fc (by omega) _ _ hx cy).use fun r H14 s14 hr => ?_
  obtain ⟨_, bb, rfl, hbb⟩ := hr
  obtain ⟨bbb, bbc, rfl, _⟩ := id hbb
  have t14 := s14
  replace hG := GlobH.up hG t14
  replace hc := GatesH.up hc t14
  replace hy := NumH.up hy t14
  replace hz := IntsC.up hz t14
  replace hx := GatesH.up hx t14
  replace cy := NumH.up cy t14
  replace cz := IntsC.up cz t14
  replace hra := RecsH.up hra t14
  replace hrb := BrsC.up hrb t14
  replace hone := BrC.up hone t14
  replace hba := NumH.up hba t14
  conv => whnf
  refine W_draw (pol := polL) Γok mixes [(0, .pendO), (1, .pendO), (2, .pendO), (3, .pendO), (4, .pendO), (5, .pendO), (6, .pendO), (7, .pendO), (8, .pendO), (9, .pendO), (10, .pendO), (11, .pendO), (12, .pendO), (13, .pendO), (14, .pendO), (15, .pendO), (16, .pendO), (17, .pendO), (18, .pendO), (19, .pendO), (20, .pendO), (21, .pend), (22, .pendO), (23, .lock), (24, .lock), (25, .pendO), (26, .pendO), (27, .pendO), (28, .pendO), (29, .pendO), (30, .lock), (31, .pendO), (32, .pendO)] 151 (by kernel_rfl) rfl ?_
  conv => whnf
  refine if_intro (fun h15 => ?_) (fun _ => ?_)
  · exact absurd h15 (bne_no)
  conv => whnf
  refine if_intro (fun h16 => ?_) (fun _ => ?_)
  · exact absurd h16 (bne_no)
  conv => whnf
  refine if_intro (fun h17 => ?_) (fun _ => ?_)
  · exact absurd h17 (bne_no)
  conv => whnf
  refine if_intro (fun h18 => ?_) (fun _ => ?_)
  · exact absurd h18 (by rw [hBn, hrl]; exact bne_no)
  conv => whnf
  refine (d20 _ _ _ ⟨_, _, _, rfl⟩ ⟨_, _, rfl⟩ ⟨_, _, _, rfl⟩ _).val fun H19 s19 => ?_
  have t19 := s19
  replace hG := GlobH.up hG t19
  replace hc := GatesH.up hc t19
  replace hy := NumH.up hy t19
  replace hz := IntsC.up hz t19
  replace hx := GatesH.up hx t19
  replace cy := NumH.up cy t19
  replace cz := IntsC.up cz t19
  replace hra := RecsH.up hra t19
  replace hrb := BrsC.up hrb t19
  replace hone := BrC.up hone t19
  replace hba := NumH.up hba t19
  replace hbb := NumH.up hbb t19
  conv => whnf
  refine (d19o (along_facts c v l).1 (along_facts c v l).2 hAl hone).mono fun r H20 M20 s20 hr => ?_
  obtain ⟨rfl, hO⟩ := hr
  replace hAl := hAl.up hO
  replace hBa := fun j b c h1 h2 => (hBa j b c h1 h2).up hO
  replace hBl := OwnS.upS hBl hO
  have t20 := s20
  replace hG := GlobH.up hG t20
  replace hc := GatesH.up hc t20
  replace hy := NumH.up hy t20
  replace hz := IntsC.up hz t20
  replace hx := GatesH.up hx t20
  replace cy := NumH.up cy t20
  replace cz := IntsC.up cz t20
  replace hra := RecsH.up hra t20
  replace hrb := BrsC.up hrb t20
  replace hone := BrC.up hone t20
  replace hba := NumH.up hba t20
  replace hbb := NumH.up hbb t20
  conv => whnf
  refine (c48t _ _ (eqL_refl (bitsR c v).1) (bits_short c v) _ _ _ hbb hba).val fun H21 s21 => ?_
  have t21 := s21
  replace hG := GlobH.up hG t21
  replace hc := GatesH.up hc t21
  replace hy := NumH.up hy t21
  replace hz := IntsC.up hz t21
  replace hx := GatesH.up hx t21
  replace cy := NumH.up cy t21
  replace cz := IntsC.up cz t21
  replace hra := RecsH.up hra t21
  replace hrb := BrsC.up hrb t21
  replace hone := BrC.up hone t21
  replace hba := NumH.up hba t21
  replace hbb := NumH.up hbb t21
  conv => whnf
  have hcs : cs.length ≤ 256 := by rw [hBn]; exact run_len c v
  refine W_loop (pol := polL) Γok (Nat × PH × PH) (fun z => z.1 ≤ cs.length ∧ Sub H21 z.2.1 ∧ OwnS z.2.2 3 47 (.slice ub cs.length uc) cs ∧ (∀ (j : Nat) b c', z.1 ≤ j → (runR c v).1[j]? = some b → cs[j]? = some c' → BrM z.2.2 b c') ∧ BrM z.2.2 (alongR c v l).1 [.slice o2b o2n o2c, .int .i64 (alongR c v l).1.bits, .slice s2b s2n s2c]) (fun z => cs.length - z.1) (fun z => [(113, .v (.int .i64 z.1))]) (fun _ => []) (fun z => z.2.1) (fun z => z.2.2) ⟨(0, H21, M20), ⟨Nat.zero_le _, Sub.refl _, hBl, fun j b c' _ h1 h2 => hBa j b c' h1 h2, hAl⟩, rfl, rfl, ?_⟩ ?_
  · conv => whnf
    repeat (refine ⟨rfl, ?_⟩; conv => whnf)
    exact trivial
  rintro ⟨i, Hi, Oi⟩ ⟨h1i, hsi, hli, hbi, hai⟩
  dsimp only at h1i hsi hli hbi hai
  conv => whnf
  refine if_intro (fun hci => ?_) (fun hci => ?_)
  · have hii : i < cs.length := by
      have := of_decide_eq_true hci
      omega
    have hir : i < (runR c v).1.length := by omega
    have hirr : i < rcs.length := by omega
    obtain ⟨ov, sv, ec, ho1, ho2⟩ := hbi i _ _ (Nat.le_refl _) (List.getElem?_eq_getElem hir) (List.getElem?_eq_getElem hii)
    obtain ⟨ov0, sv0, ec0, q1, q2⟩ := hBa0 i _ _ (List.getElem?_eq_getElem hir) (List.getElem?_eq_getElem hii)
    rw [ec] at ec0
    cases ec0
    have hx1 := hX _ _ _ _ q1
    have hx2 := hX _ _ _ _ q2
    rw [List.length_map] at hx1 hx2
    have hpp : ∀ (j : Nat) c', i < j → cs[j]? = some c' → ∀ ov' sv' k, c' = [ov', k, sv'] → ApS ov (runR c v).1[i].outs.length ov' ∧ ApS sv (runR c v).1[i].state.length sv' := fun j c' hij hc' ov' sv' k e => hBp i j _ _ c' hij (List.getElem?_eq_getElem hir) (List.getElem?_eq_getElem hii) hc' ov sv _ ov' sv' k ec e
    obtain ⟨fo, fs⟩ := run_facts c v _ (List.getElem_mem hir)
    have hb1 : BrM Oi (runR c v).1[i] [ov, .int .i64 (runR c v).1[i].bits, sv] := ⟨_, _, rfl, ho1, ho2⟩
    obtain ⟨ovb', ovn', ovc', rfl⟩ := OwnS.sl ho1
    obtain ⟨svb', svn', svc', rfl⟩ := OwnS.sl ho2
    obtain ⟨lb, rfl, hlr⟩ := OwnS.rdN (H := Hi) hli hii
    rw [ec] at hlr
    obtain ⟨wb, woff, rfl, hwr⟩ := hra.rd hirr
    obtain ⟨wo, ws, ew, wh1, wh2⟩ := hrb.2 i _ _ (List.getElem?_eq_getElem hir) (List.getElem?_eq_getElem hirr)
    rw [ew] at hwr
    have hbw : BrC Hi (runR c v).1[i] [wo, .int .i64 (runR c v).1[i].bits, ws] := BrC.up ⟨_, _, rfl, wh1, wh2⟩ hsi
    obtain ⟨wob, woc, rfl, _⟩ := id wh1
    obtain ⟨wsb, wsc, rfl, _⟩ := id wh2
    conv => whnf
    refine dec_intro (by omega) ?_
    conv => whnf
    refine ⟨_, hlr, ?_⟩
    conv => whnf
    intro b23
    conv => whnf
    refine W_draw (pol := polL) Γok mixes [(0, .pend), (1, .pendO), (2, .pendO), (3, .pendO), (4, .pendO), (5, .lock), (6, .lock), (7, .pendO)] 151 (by kernel_rfl) rfl ?_
    conv => whnf
    refine dec_intro (by omega) ?_
    conv => whnf
    refine ⟨_, hwr _ _ hsi, ?_⟩
    conv => whnf
    refine (d20 _ _ _ ⟨_, _, _, rfl⟩ ⟨_, _, rfl⟩ ⟨_, _, _, rfl⟩ _).val fun Hj sj => ?_
    conv => whnf
    refine (d19o fo fs hb1 (hbw.up sj)).mono fun r Hk Ok sk hr => ?_
    obtain ⟨rfl, hOk⟩ := hr
    replace hli := OwnS.upS hli hOk
    replace hbi := fun j b c' h0 h1 h2 => (hbi j b c' h0 h1 h2).up hOk
    replace hai := hai.up hOk
    replace ho1 := OwnS.upS ho1 hOk
    replace ho2 := OwnS.upS ho2 hOk
    conv => whnf
    refine OwnS.clear ho2 rfl (by simp [Value.oneCell']) fun O1 hk1 => ?_
    replace hli := OwnS.kept hli (ap_type ho2 hli (by decide)) hk1
    replace hai := hai.clearS ho2 (fun ov' sv' k e => by cases e; exact hx2.2) hk1
    have hbi2 : ∀ (j : Nat) b c', i + 1 ≤ j → (runR c v).1[j]? = some b → cs[j]? = some c' → BrM O1 b c' := fun j b c' h0 h1 h2 => (hbi j b c' (by omega) h1 h2).clearS ho2 (fun ov' sv' k e => (hpp j c' h0 h2 ov' sv' k e).2) hk1
    replace ho1 := OwnS.kept ho1 (ap_type ho2 ho1 (by decide)) hk1
    conv => whnf
    refine OwnS.clear ho1 rfl (by simp [Value.oneCell']) fun O2 hk2 => ?_
    replace hli := OwnS.kept hli (ap_type ho1 hli (by decide)) hk2
    replace hai := hai.clearO ho1 (fun ov' sv' k e => by cases e; exact hx1.1) hk2
    have hbi3 : ∀ (j : Nat) b c', i + 1 ≤ j → (runR c v).1[j]? = some b → cs[j]? = some c' → BrM O2 b c' := fun j b c' h0 h1 h2 => (hbi2 j b c' h0 h1 h2).clearO ho1 (fun ov' sv' k e => (hpp j c' h0 h2 ov' sv' k e).1) hk2
    conv => whnf
    refine ⟨(i + 1, Hk, O2), ⟨hii, hsi.trans (sj.trans sk), hli, hbi3, hai⟩, by dsimp only; omega, ?_⟩
    refine ⟨rfl, rfl, ?_⟩
    conv => whnf
    repeat (refine ⟨rfl, ?_⟩; conv => whnf)
    refine ⟨by show En.v (.int .i64 (IntKind.i64.wrap (i + 1))) = _; rw [wrap_id (by omega) (by omega)] <;> rfl, ?_⟩
    conv => whnf
    repeat (refine ⟨rfl, ?_⟩; conv => whnf)
    exact trivial
  have hii : i = cs.length := by
    have := of_decide_eq_false hci
    omega
  obtain ⟨_, _, e, z1, z2⟩ := hai
  cases e
  have tl := hsi
  replace hG := GlobH.up hG tl
  replace hc := GatesH.up hc tl
  replace hy := NumH.up hy tl
  replace hz := IntsC.up hz tl
  replace hx := GatesH.up hx tl
  replace cy := NumH.up cy tl
  replace cz := IntsC.up cz tl
  replace hra := RecsH.up hra tl
  replace hrb := BrsC.up hrb tl
  replace hone := BrC.up hone tl
  replace hba := NumH.up hba tl
  replace hbb := NumH.up hbb tl
  dsimp only [litK, setK]
  refine codeK_exit ?_
  dsimp only []
  rw [if_pos rfl]
  refine seq_stop fun K1 hK1 => ?_
  conv => whnf
  refine OwnS.clear z2 rfl (by simp [Value.oneCell']) fun O1 hk1 => ?_
  replace z1 := OwnS.kept z1 (ap_type z2 z1 (by decide)) hk1
  conv => whnf
  rw [← hK1]
  clear hK1 K1
  refine seq_stop fun K1 hK1 => ?_
  conv => whnf
  refine OwnS.clear z1 rfl (by simp [Value.oneCell']) fun O2 hk2 => ?_
  conv => whnf
  rw [← hK1]
  clear hK1 K1
  conv => whnf
  refine (d22t c fc _ _ _ ⟨_, rfl, hx⟩ ⟨_, rfl, hc⟩).val fun H22 s22 => ?_
  have t22 := s22
  replace hG := GlobH.up hG t22
  replace hc := GatesH.up hc t22
  replace hy := NumH.up hy t22
  replace hz := IntsC.up hz t22
  replace hx := GatesH.up hx t22
  replace cy := NumH.up cy t22
  replace cz := IntsC.up cz t22
  replace hra := RecsH.up hra t22
  replace hrb := BrsC.up hrb t22
  replace hone := BrC.up hone t22
  replace hba := NumH.up hba t22
  replace hbb := NumH.up hbb t22
  conv => whnf
  refine (c48t v v (eqL_refl _) hv0 _ _ _ cy hy).val fun H23 s23 => ?_
  have t23 := s23
  replace hG := GlobH.up hG t23
  replace hc := GatesH.up hc t23
  replace hy := NumH.up hy t23
  replace hz := IntsC.up hz t23
  replace hx := GatesH.up hx t23
  replace cy := NumH.up cy t23
  replace cz := IntsC.up cz t23
  replace hra := RecsH.up hra t23
  replace hrb := BrsC.up hrb t23
  replace hone := BrC.up hone t23
  replace hba := NumH.up hba t23
  replace hbb := NumH.up hbb t23
  conv => whnf
  refine (c25t l l rfl (by omega) _ _ _ cz.h hz.h).val fun H24 s24 => ?_
  have t24 := s24
  replace hG := GlobH.up hG t24
  replace hc := GatesH.up hc t24
  replace hy := NumH.up hy t24
  replace hz := IntsC.up hz t24
  replace hx := GatesH.up hx t24
  replace cy := NumH.up cy t24
  replace cz := IntsC.up cz t24
  replace hra := RecsH.up hra t24
  replace hrb := BrsC.up hrb t24
  replace hone := BrC.up hone t24
  replace hba := NumH.up hba t24
  replace hbb := NumH.up hbb t24
  conv => whnf
  refine (d9 _ hG).val fun H25 s25 => ?_
  have t25 := s25
  replace hG := GlobH.up hG t25
  replace hc := GatesH.up hc t25
  replace hy := NumH.up hy t25
  replace hz := IntsC.up hz t25
  replace hx := GatesH.up hx t25
  replace cy := NumH.up cy t25
  replace cz := IntsC.up cz t25
  replace hra := RecsH.up hra t25
  replace hrb := BrsC.up hrb t25
  replace hone := BrC.up hone t25
  replace hba := NumH.up hba t25
  replace hbb := NumH.up hbb t25
  conv => whnf
end Go.Proofs.YtmhnalikebkhjaaGreatDoor


namespace Go.Proofs.YtmhnalikebkhjaaGreatDoor
open Go.Proofs.YtmhnalikebkhjaaGreatDoor.X Go.Proofs.YtmhnalikebkhjaaGreatDoor.X.PH Go.ChangeShapes Go.WideShapes Go.ChangeAt Go.RowKit Go.Deep
set_option maxRecDepth 100000

/-- A call that changes nothing, in a given world. -/
theorem Cl.calls {f : FuncId} {args : List Value} {W : World} {Q : Value → Prop} (h : Cl Tryz.prog f args (heapP W) emp fun v _ _ => Q v) : Calls Tryz.prog f args.toArray W fun e W' => ∃ v, e = .returned v ∧ Below W.heap.size W W' ∧ Q v := by
  unfold Cl at h
  refine (h.2 W (fun n o hn => hn) (fun n o hn => by cases hn) (.emp _)).mono ?_
  rintro e W' ⟨v, H', M', he, hp, hq⟩
  exact ⟨v, he, hp.frm.below, hq⟩

end Go.Proofs.YtmhnalikebkhjaaGreatDoor


namespace Go.Proofs.YtmhnalikebkhjaaGreatDoor
open Go.Proofs.YtmhnalikebkhjaaGreatDoor.X Go.Proofs.YtmhnalikebkhjaaGreatDoor.X.PH Go.ChangeShapes Go.WideShapes Go.ChangeAt Go.RowKit Go.Deep
set_option maxRecDepth 100000
section
variable {H : Type} {enc : TypeId × Value → H} {W : World}
end
end Go.Proofs.YtmhnalikebkhjaaGreatDoor


namespace Go.Proofs.YtmhnalikebkhjaaGreatDoor
open Go.Proofs.YtmhnalikebkhjaaGreatDoor.X Go.Proofs.YtmhnalikebkhjaaGreatDoor.X.PH Go.ChangeShapes Go.WideShapes Go.ChangeAt Go.RowKit Go.Deep
set_option maxRecDepth 100000
section
variable {H : Type} {enc : TypeId × Value → H} {W : World}
end
end Go.Proofs.YtmhnalikebkhjaaGreatDoor


namespace Go.Proofs.YtmhnalikebkhjaaGreatDoor
open Go.Proofs.YtmhnalikebkhjaaGreatDoor.X Go.Proofs.YtmhnalikebkhjaaGreatDoor.X.PH Go.ChangeShapes Go.WideShapes Go.ChangeAt Go.RowKit Go.Deep
set_option maxRecDepth 100000
section
variable {H : Type} {enc : TypeId × Value → H} {W : World}
end
end Go.Proofs.YtmhnalikebkhjaaGreatDoor


namespace Go.Proofs.YtmhnalikebkhjaaGreatDoor
open Go.Proofs.YtmhnalikebkhjaaGreatDoor.X Go.Proofs.YtmhnalikebkhjaaGreatDoor.X.PH Go.ChangeShapes Go.WideShapes Go.ChangeAt Go.RowKit Go.Deep
set_option maxRecDepth 100000
theorem cells3i : Tryz.prog.cellsOf 3 = 1 := by kernel_rfl
section
variable {H : Type} {enc : TypeId × Value → H} {W : World}
/-- Integers that are passed in, in a slice. -/
theorem open_ints0 {a0 : Option Addr} {n0 c0 : Nat} {d : DataW H} {p : List MemPlace} (h : DataW.Trod enc Tryz.prog W 0 (fun _ => true) true 26 (.slice a0 n0 c0) d p) : ∃ l : List Int, n0 = l.length ∧ IntsH (heapP W) (.slice a0 n0 c0) l ∧ l.length ≤ c0 ∧ l.length ≤ maxLen := by
  obtain ⟨fuel, h⟩ := h
  rcases open_slice Tryz.underlying26 h with ⟨hv, _⟩ | ⟨a, len, cap, m, n, D, Pl, hv, _, hl, hmax, hm, _, hx⟩
  · simp [Value.cells] at hv
    obtain ⟨rfl, rfl, rfl⟩ := hv
    exact ⟨[], rfl, ⟨none, 0, rfl, .inl ⟨rfl, rfl⟩⟩, by simp, by simp⟩
  simp [Value.cells] at hv
  obtain ⟨rfl, rfl, rfl⟩ := hv
  simp only [if_true] at hm
  rw [cells3i] at hx
  obtain ⟨f, hf⟩ := choose_lt (α := Int) (n := n0) (p := fun i y => W.cells? 0 (a.add (i * 1)) 1 = some [.int .i64 y]) (fun i hi => by
    obtain ⟨cs', h1, h2⟩ := hx i (by omega)
    obtain ⟨k, rfl, _⟩ := DataW.trod_int Tryz.underlying3 h2
    exact ⟨k, h1⟩)
  refine ⟨(List.range n0).map f, by simp, ?_, by simp; omega, by simp; omega⟩
  rcases Nat.eq_zero_or_pos n0 with h0 | hpos
  · subst h0
    exact ⟨some a, c0, rfl, .inl ⟨rfl, rfl⟩⟩
  obtain ⟨b, off, c, t, fr, ha, hH, _⟩ := cells_block (hf 0 hpos) (by decide)
  have ha' : a = ⟨b, off, none⟩ := by
    rw [Nat.zero_mul] at ha
    exact ha
  subst ha'
  refine ⟨some ⟨b, off, none⟩, c0, by simp, .inr ⟨b, off, c, t, fr, rfl, hH, ?_⟩⟩
  have hfam := take_fam 1 (fun x : Int => [Value.int .i64 x]) f (fun _ => rfl) (c.toList.drop off) n0 fun i hi => by
    obtain ⟨b', off', c', t', fr', ha', hH', hc⟩ := cells_block (hf i hi) (by decide)
    have e : (Addr.add ⟨b, off, none⟩ (i * 1)) = ⟨b, off + i * 1, none⟩ := by
      unfold Addr.add
      split
      · rename_i e; rw [e]; rfl
      · rfl
    rw [e] at ha'
    cases ha'
    rw [hH] at hH'
    cases hH'
    rw [List.drop_drop]
    exact hc
  simp only [List.length_map, List.length_range]
  rw [Nat.mul_one] at hfam
  rw [hfam, List.map_map]
  generalize List.range n0 = r
  clear hfam hf hx hpos hH
  induction r with
  | nil => rfl
  | cons x r ih =>
    simp only [List.map_cons, List.flatten_cons]
    rw [ih]
    rfl
end
end Go.Proofs.YtmhnalikebkhjaaGreatDoor


namespace Go.Proofs.YtmhnalikebkhjaaGreatDoor
open Go.Proofs.YtmhnalikebkhjaaGreatDoor.X Go.Proofs.YtmhnalikebkhjaaGreatDoor.X.PH Go.ChangeShapes Go.WideShapes Go.ChangeAt Go.RowKit Go.Deep
set_option maxRecDepth 100000

abbrev laid2 : List (String × DataW Unit) := [("spoondrift/spoondriftlaw06.root", Rows.laid_spoondrift_spoondriftlaw06_root), ("spoondrift/spoondriftlaw06.half", Rows.laid_spoondrift_spoondriftlaw06_half)]
theorem gRoot : Tryz.prog.globalNamed "spoondrift/spoondriftlaw06.root" = some 0 := by kernel_rfl
theorem gHalf : Tryz.prog.globalNamed "spoondrift/spoondriftlaw06.half" = some 1 := by kernel_rfl
theorem tRoot : (Tryz.prog.globals[0]?).map (·.type) = some 32 := by kernel_rfl
theorem tHalf : (Tryz.prog.globals[1]?).map (·.type) = some 32 := by kernel_rfl
theorem door_met (os : Os) (args : Array Value) : laidMetH Tryz.prog laid2 ((World.doorLaid Tryz.prog 400 os).forCall (fun _ _ => 0) ⟨#[], args, []⟩).memory :=
  laidMetH_of_parts3 (fuel := 8) (laidMet_of_run' 8 (by kernel_rfl) (by kernel_rfl)) (by kernel_rfl) (by kernel_rfl)
section
variable {W : World}
theorem glob_num {fuel : Nat} {cs : List Value} {k0 k1 k2 k3 k4 : Int} {p : List MemPlace} (h : DataW.trod (fun _ => ()) Tryz.prog W 0 (fun _ => true) false fuel 32 cs = some (.agg [.lit (.int .i64 k0), .lit (.int .i64 k1), .lit (.int .i64 k2), .lit (.int .i64 k3), .lit (.int .i64 k4)], p)) : cs = [.int .i64 k0, .int .i64 k1, .int .i64 k2, .int .i64 k3, .int .i64 k4] := by
  obtain ⟨xs, n, rfl, e, hl, hx, hf⟩ := DataW.trod_struct Tryz.underlying32 h
  rw [cells28] at hl
  have hx5 : xs.length = 5 := hx
  simp only [Prod.mk.injEq, DataW.agg.injEq] at e
  have he := e.1
  have key : ∀ (i : Nat) (f : Field), #[{ name := "A", type := 3, offset := 0, embedded := false, tag := "", pkgPath := "", byteOffset := 0 : Field }, { name := "B", type := 3, offset := 1, embedded := false, tag := "", pkgPath := "", byteOffset := 8 }, { name := "C", type := 3, offset := 2, embedded := false, tag := "", pkgPath := "", byteOffset := 16 }, { name := "D", type := 3, offset := 3, embedded := false, tag := "", pkgPath := "", byteOffset := 24 }, { name := "K", type := 3, offset := 4, embedded := false, tag := "", pkgPath := "", byteOffset := 32 }][i]? = some f → f.type = 3 → f.offset = i → i < 5 → ∃ k, cs[i]? = some (.int .i64 k) ∧ ([DataW.lit (.int .i64 k0), .lit (.int .i64 k1), .lit (.int .i64 k2), .lit (.int .i64 k3), .lit (.int .i64 k4)] : List (DataW Unit))[i]? = some (.lit (.int .i64 k)) := by
    intro i f hfi ht ho hi
    have := hf i f hfi
    rw [ht, ho, cells3] at this
    rw [List.getElem?_eq_getElem (by omega)] at this
    obtain ⟨k, hk, e2, _⟩ := DataW.trod_int Tryz.underlying3 this
    refine ⟨k, ?_, ?_⟩
    · have := congrArg (·[0]?) hk
      simpa [List.getElem?_take, List.getElem?_drop] using this
    · rw [he, List.getElem?_map, List.getElem?_eq_getElem (by omega), e2]
      rfl
  obtain ⟨q0, h0, i0⟩ := key 0 _ rfl rfl rfl (by decide)
  obtain ⟨q1, h1, i1⟩ := key 1 _ rfl rfl rfl (by decide)
  obtain ⟨q2, h2, i2⟩ := key 2 _ rfl rfl rfl (by decide)
  obtain ⟨q3, h3, i3⟩ := key 3 _ rfl rfl rfl (by decide)
  obtain ⟨q4, h4, i4⟩ := key 4 _ rfl rfl rfl (by decide)
  simp at i0 i1 i2 i3 i4
  subst i0 i1 i2 i3 i4
  match cs, hl with
  | [a, b, c, d, e], _ =>
    simp at h0 h1 h2 h3 h4
    subst h0 h1 h2 h3 h4
    rfl
theorem glob_cell {g : Nat} {n : String} {cs : Array Value} {k : Int} (hg : Tryz.prog.globalNamed n = some g) (hv : W.var? Tryz.prog n = some cs) (hc : cs.toList = [.int .i64 1, .int .i64 0, .int .i64 0, .int .i64 0, .int .i64 k]) : Rd (heapP W) emp ⟨g, 0, none⟩ 5 [.int .i64 1, .int .i64 0, .int .i64 0, .int .i64 0, .int .i64 k] := by
  obtain ⟨l⟩ := cs
  have hc : l = [.int .i64 1, .int .i64 0, .int .i64 0, .int .i64 0, .int .i64 k] := hc
  subst hc
  have c0 := World.var?_cell hg hv 0
  have c1 := World.var?_cell hg hv 1
  have c2 := World.var?_cell hg hv 2
  have c3 := World.var?_cell hg hv 3
  have c4 := World.var?_cell hg hv 4
  obtain ⟨b, off, c, t, fr, e, hb, h0⟩ := one_block (v := .int .i64 1) (by simpa using c0)
  cases e
  obtain ⟨_, _, c', t', fr', e, hb', h1⟩ := one_block (v := .int .i64 0) (by simpa using c1)
  cases e
  rw [hb] at hb'; cases hb'
  obtain ⟨_, _, c', t', fr', e, hb', h2⟩ := one_block (v := .int .i64 0) (by simpa using c2)
  cases e
  rw [hb] at hb'; cases hb'
  obtain ⟨_, _, c', t', fr', e, hb', h3⟩ := one_block (v := .int .i64 0) (by simpa using c3)
  cases e
  rw [hb] at hb'; cases hb'
  obtain ⟨_, _, c', t', fr', e, hb', h4⟩ := one_block (v := .int .i64 k) (by simpa using c4)
  cases e
  rw [hb] at hb'; cases hb'
  refine ⟨rfl, rfl, c, t, fr, .inl hb, ?_⟩
  apply List.ext_getElem?
  intro i
  rw [List.getElem?_take, List.drop_zero]
  match i with
  | 0 => simpa using h0
  | 1 => simpa using h1
  | 2 => simpa using h2
  | 3 => simpa using h3
  | 4 => simpa using h4
  | i + 5 =>
    simp
    omega
/-- What the condition gives the walks. -/
theorem glob_of_laid (h : laidMetH Tryz.prog laid2 W) : GlobH (heapP W) := by
  rw [MakeChecks.laidMetH_plain _ _ _ (by kernel_rfl)] at h
  obtain ⟨ps, ⟨g0, t0, cs0, f0, p0, q0, hg0, ht0, hv0, hd0, ⟨g1, t1, cs1, f1, p1, q1, hg1, ht1, hv1, hd1, _, _⟩, _⟩, _, _⟩ := h
  obtain rfl := Option.some.inj (gRoot.symm.trans hg0)
  obtain rfl := Option.some.inj (gHalf.symm.trans hg1)
  obtain rfl := Option.some.inj (tRoot.symm.trans ht0)
  obtain rfl := Option.some.inj (tHalf.symm.trans ht1)
  exact ⟨glob_cell hg0 hv0 (glob_num hd0), glob_cell hg1 hv1 (glob_num hd1)⟩
end
section
variable {H : Type} {enc : TypeId × Value → H} {W : World}
theorem open_vec {a0 : Option Addr} {n0 c0 : Nat} {d : DataW H} {p : List MemPlace} (h : DataW.Trod enc Tryz.prog W 0 (fun _ => true) true 25 (.slice a0 n0 c0) d p) : ∃ l, NumH (heapP W) (.slice a0 n0 c0) l ∧ l.length ≤ maxLen := by
  obtain ⟨fuel, h⟩ := h
  obtain ⟨v, l, hv, hl⟩ := open_row h
  simp [Value.cells] at hv
  subst hv
  refine ⟨l, hl, ?_⟩
  obtain ⟨base, cap, e, _⟩ := id hl
  cases e
  rcases open_slice Tryz.underlying25 h with ⟨hv, _⟩ | ⟨a, len, cap, m, n, D, Pl, hv, _, hl, hmax, hm, _, hx⟩
  · simp [Value.cells] at hv
    obtain ⟨_, e, _⟩ := hv
    rw [e]
    exact Nat.zero_le _
  · simp [Value.cells] at hv
    obtain ⟨_, rfl, _⟩ := hv
    omega
theorem open_intsC {a0 : Option Addr} {n0 c0 : Nat} {d : DataW H} {p : List MemPlace} (h : DataW.Trod enc Tryz.prog W 0 (fun _ => true) true 26 (.slice a0 n0 c0) d p) : ∃ l : List Int, IntsC (heapP W) (.slice a0 n0 c0) l ∧ l.length ≤ maxLen := by
  obtain ⟨l, rfl, h1, h2, h3⟩ := open_ints0 h
  exact ⟨l, ⟨_, _, rfl, h2, h1⟩, h3⟩
end
end Go.Proofs.YtmhnalikebkhjaaGreatDoor


namespace Go.Proofs.YtmhnalikebkhjaaGreatDoor
open Go.Proofs.YtmhnalikebkhjaaGreatDoor.X Go.Proofs.YtmhnalikebkhjaaGreatDoor.X.PH Go.ChangeShapes Go.WideShapes Go.ChangeAt Go.RowKit Go.Deep
set_option maxRecDepth 100000
instance : Inhabited Gt := ⟨⟨0, [], 0, 0⟩⟩
section
variable {H : Type} {enc : TypeId × Value → H} {W : World}
theorem open_intsV {fuel : Nat} {cs : List Value} {x : DataW H × List MemPlace} (h : DataW.trod enc Tryz.prog W 0 (fun _ => true) true fuel 26 cs = some x) : ∃ w l, cs = [w] ∧ IntsC (heapP W) w l ∧ l.length ≤ maxLen := by
  obtain ⟨d, p⟩ := x
  rcases open_slice Tryz.underlying26 h with ⟨rfl, _⟩ | ⟨a, len, cap, m, n, D, Pl, rfl, _⟩
  · obtain ⟨l, h1, h2⟩ := open_intsC (d := d) (p := p) ⟨fuel, h⟩
    exact ⟨_, l, rfl, h1, h2⟩
  · obtain ⟨l, h1, h2⟩ := open_intsC (d := d) (p := p) ⟨fuel, h⟩
    exact ⟨_, l, rfl, h1, h2⟩
theorem cells57 : Tryz.prog.cellsOf 57 = 4 := by kernel_rfl
theorem cells24 : Tryz.prog.cellsOf 24 = 3 := by kernel_rfl
theorem cells26 : Tryz.prog.cellsOf 26 = 1 := by kernel_rfl
theorem cells22 : Tryz.prog.cellsOf 22 = 1 := by kernel_rfl
theorem open_gateC {fuel : Nat} {cs : List Value} {x : DataW H × List MemPlace} (h : DataW.trod enc Tryz.prog W 0 (fun _ => true) true fuel 57 cs = some x) : ∃ (g : Gt) (w : Value), cs = [.int .i64 g.kind, w, .int .i64 g.bit, .int .i64 g.cond] ∧ IntsC (heapP W) w g.ws ∧ g.ws.length ≤ maxLen := by
  obtain ⟨xs, n, rfl, rfl, hl, hx, hf⟩ := DataW.trod_struct Tryz.underlying57 h
  rw [cells57] at hl
  have hx4 : xs.length = 4 := hx
  have h0 : DataW.trod enc Tryz.prog W 0 (fun _ => true) true n 3 ((cs.drop 0).take (Tryz.prog.cellsOf 3)) = xs[0]? := hf 0 _ rfl
  have h1 : DataW.trod enc Tryz.prog W 0 (fun _ => true) true n 26 ((cs.drop 1).take (Tryz.prog.cellsOf 26)) = xs[1]? := hf 1 _ rfl
  have h2 : DataW.trod enc Tryz.prog W 0 (fun _ => true) true n 3 ((cs.drop 2).take (Tryz.prog.cellsOf 3)) = xs[2]? := hf 2 _ rfl
  have h3 : DataW.trod enc Tryz.prog W 0 (fun _ => true) true n 3 ((cs.drop 3).take (Tryz.prog.cellsOf 3)) = xs[3]? := hf 3 _ rfl
  rw [cells3, List.getElem?_eq_getElem (by omega)] at h0 h2 h3
  rw [cells26, List.getElem?_eq_getElem (by omega)] at h1
  match cs, hl with
  | [a, b, c, d], _ =>
    obtain ⟨k0, e0, _⟩ := DataW.trod_int Tryz.underlying3 h0
    obtain ⟨w, l, e1, hw, hb⟩ := open_intsV h1
    obtain ⟨k2, e2, _⟩ := DataW.trod_int Tryz.underlying3 h2
    obtain ⟨k3, e3, _⟩ := DataW.trod_int Tryz.underlying3 h3
    simp at e0 e1 e2 e3
    subst e0 e1 e2 e3
    exact ⟨⟨k0, l, k2, k3⟩, _, rfl, hw, hb⟩
theorem open_gatesC {fuel : Nat} {cs : List Value} {x : DataW H × List MemPlace} (h : DataW.trod enc Tryz.prog W 0 (fun _ => true) true fuel 22 cs = some x) : ∃ (w : Value) (gs : List Gt), cs = [w] ∧ GatesH (heapP W) w gs ∧ gs.length ≤ maxLen ∧ ∀ g ∈ gs, g.ws.length ≤ maxLen := by
  rcases open_slice Tryz.underlying22 h with ⟨rfl, _⟩ | ⟨a, len, cap, m, n, D, Pl, rfl, _, hl, hmax, hm, _, hx⟩
  · exact ⟨_, [], rfl, ⟨[], rfl, ⟨(fun c h => by cases h), none, 0, rfl, .inl ⟨rfl, rfl⟩⟩, fun i g c h => by simp at h⟩, by simp, fun g h => by cases h⟩
  simp only [if_true] at hm
  rw [cells57] at hx
  obtain ⟨f, hf⟩ := choose_lt (α := Gt × Value) (n := len) (p := fun i y => W.cells? 0 (a.add (i * 4)) 4 = some [.int .i64 y.1.kind, y.2, .int .i64 y.1.bit, .int .i64 y.1.cond] ∧ IntsC (heapP W) y.2 y.1.ws ∧ y.1.ws.length ≤ maxLen) (fun i hi => by
    obtain ⟨cs', h1, h2⟩ := hx i (by omega)
    obtain ⟨g, w, rfl, hw, hb⟩ := open_gateC h2
    exact ⟨(g, w), h1, hw, hb⟩)
  have hlen : ((List.range len).map fun i => (f i).1).length = len := by simp
  have hmem : ∀ g ∈ (List.range len).map fun i => (f i).1, g.ws.length ≤ maxLen := fun g hg => by
    obtain ⟨i, hi, rfl⟩ := List.mem_map.1 hg
    exact (hf i (List.mem_range.1 hi)).2.2
  have hget : ∀ (i : Nat) g c, ((List.range len).map fun i => (f i).1)[i]? = some g → ((List.range len).map fun i => [Value.int .i64 (f i).1.kind, (f i).2, .int .i64 (f i).1.bit, .int .i64 (f i).1.cond])[i]? = some c → GateC (heapP W) g c := fun i g c h1 h2 => by
    have hi : i < len := by
      have := (List.getElem?_eq_some_iff.1 h1).1
      simpa using this
    rw [List.getElem?_map, List.getElem?_range hi] at h1 h2
    cases h1; cases h2
    exact ⟨_, rfl, (hf i hi).2.1⟩
  refine ⟨_, (List.range len).map fun i => (f i).1, rfl, ⟨(List.range len).map fun i => [Value.int .i64 (f i).1.kind, (f i).2, .int .i64 (f i).1.bit, .int .i64 (f i).1.cond], by simp, ⟨fun c hc => ?_, some a, cap, by simp, ?_⟩, hget⟩, by rw [hlen]; omega, hmem⟩
  · obtain ⟨i, _, rfl⟩ := List.mem_map.1 hc
    rfl
  rcases Nat.eq_zero_or_pos len with h0 | hpos
  · subst h0
    exact .inl ⟨rfl, rfl⟩
  obtain ⟨b, off, c, t, fr, ha, hH, _⟩ := cells_block (hf 0 hpos).1 (by decide)
  have ha' : a = ⟨b, off, none⟩ := by
    rw [Nat.zero_mul] at ha
    exact ha
  subst ha'
  refine .inr ⟨b, off, c, t, fr, rfl, hH, ?_⟩
  have hfam := take_fam 4 (fun y : Gt × Value => [Value.int .i64 y.1.kind, y.2, .int .i64 y.1.bit, .int .i64 y.1.cond]) f (fun _ => rfl) (c.toList.drop off) len fun i hi => by
    obtain ⟨b', off', c', t', fr', ha', hH', hc⟩ := cells_block (hf i hi).1 (by decide)
    rw [addr_add] at ha'
    cases ha'
    rw [hH] at hH'
    cases hH'
    rw [List.drop_drop]
    exact hc
  have hfl : (((List.range len).map fun i => [Value.int .i64 (f i).1.kind, (f i).2, .int .i64 (f i).1.bit, .int .i64 (f i).1.cond]).flatten).length = len * 4 := by
    rw [flat_length (sz := 4) fun c hc => by obtain ⟨i, _, rfl⟩ := List.mem_map.1 hc; rfl]
    simp
  rw [hfl]
  exact hfam
theorem open_circ {r : Reach} {base : Nat} {v : Value} {d : DataW H} {p : List MemPlace} (hv : Value.okWide Tryz.prog W r base 24 v) (h : DataW.Trod enc Tryz.prog W 0 (fun _ => true) true 24 v d p) : ∃ (c : Ct) (w : Value), v = cv c w ∧ GatesH (heapP W) w c.gates ∧ c.gates.length ≤ maxLen := by
  obtain ⟨cs, rfl, _⟩ := okWide_struct Tryz.underlying24 hv
  obtain ⟨fuel, h⟩ := h
  obtain ⟨cs⟩ := cs
  have h : DataW.trod enc Tryz.prog W 0 (fun _ => true) true fuel 24 cs = some (d, p) := h
  obtain ⟨xs, n, rfl, _, hl, hx, hf⟩ := DataW.trod_struct Tryz.underlying24 h
  rw [cells24] at hl
  have hx3 : xs.length = 3 := hx
  have h0 : DataW.trod enc Tryz.prog W 0 (fun _ => true) true n 3 ((cs.drop 0).take (Tryz.prog.cellsOf 3)) = xs[0]? := hf 0 _ rfl
  have h1 : DataW.trod enc Tryz.prog W 0 (fun _ => true) true n 3 ((cs.drop 1).take (Tryz.prog.cellsOf 3)) = xs[1]? := hf 1 _ rfl
  have h2 : DataW.trod enc Tryz.prog W 0 (fun _ => true) true n 22 ((cs.drop 2).take (Tryz.prog.cellsOf 22)) = xs[2]? := hf 2 _ rfl
  rw [cells3, List.getElem?_eq_getElem (by omega)] at h0 h1
  rw [cells22, List.getElem?_eq_getElem (by omega)] at h2
  match cs, hl with
  | [a, b, c], _ =>
    obtain ⟨k0, e0, _⟩ := DataW.trod_int Tryz.underlying3 h0
    obtain ⟨k1, e1, _⟩ := DataW.trod_int Tryz.underlying3 h1
    obtain ⟨w, gs, e2, hw, hb, _⟩ := open_gatesC h2
    simp at e0 e1 e2
    subst e0 e1 e2
    exact ⟨⟨k0, k1, gs⟩, _, rfl, hw, hb⟩
end
end Go.Proofs.YtmhnalikebkhjaaGreatDoor
