/- A logic for code of the model, proved sound, and what functions do that the laws on matrices come to; nothing is asked. Part 9. -/
import Derived.Test.YtmhnalikebkhjaaGreatDoorM8

set_option linter.unusedVariables false
set_option linter.unusedSimpArgs false
set_option linter.unnecessarySimpa false


namespace Go.Proofs.YtmhnalikebkhjaaGreatDoor
open Go.Proofs.YtmhnalikebkhjaaGreatDoor.X Go.Proofs.YtmhnalikebkhjaaGreatDoor.X.PH
set_option maxRecDepth 100000

theorem codeK_skip {Γ : TypeId → TI} {P : Program} {r : Option Nat} {pol : Tmp → Pol} {s : S} {K : Exit → S → Prop} (h : K .normal s) : codeK Γ P r pol .skip s K := h
theorem seq_stop {Γ : TypeId → TI} {P : Program} {r : Option Nat} {pol : Tmp → Pol} {a b : Code} {s : S} {K : Exit → S → Prop}
    (h : ∀ K1 : S → Prop, (∀ s', codeK Γ P r pol b s' K = K1 s') → codeK Γ P r pol a s fun e s' => match e with
      | .normal => K1 s'
      | e => K e s') : codeK Γ P r pol (.seq a b) s K := h _ fun _ => rfl
theorem OwnS.clear {O : PH} {sz : Nat} {t : TypeId} {v : Value} {xs : List (List Value)} {z : List Value} {K : PH → Prop} (h : OwnS O sz t v xs) (hz : z.length = sz) (hone : ∀ x ∈ z, x.oneCell' = true)
    (k : ∀ O', (∀ n o, O n = some o → (∀ cap, v ≠ .slice (some ⟨n, 0, none⟩) xs.length cap) → O' n = some o) → K O') : Go.Proofs.YtmhnalikebkhjaaGreatDoor.X.clearK O sz z v K := by
  obtain ⟨h1, h⟩ := h
  unfold Go.Proofs.YtmhnalikebkhjaaGreatDoor.X.clearK
  rcases h with ⟨rfl, h⟩ | ⟨b, cap, spare, rfl, hO, hcap, hsp⟩
  · refine ⟨none, 0, 0, rfl, hz, hone, fun _ => k _ fun n o hn _ => hn, fun a h => by cases h⟩
  · refine ⟨some ⟨b, 0, none⟩, _, cap, rfl, hz, hone, fun _ => k _ fun n o hn _ => hn, fun a h _ => ?_⟩
    cases h
    refine ⟨b, 0, _, _, rfl, hO, ?_, k _ fun n o hn hne => (ins_ne _ _ fun e => hne cap (by rw [e])).trans hn⟩
    rw [List.length_append, flat_length h1]
    omega
theorem un_left (H O : PH) : Sub H (un H O) := fun n o h => by simp [un, h]
theorem c48o {l : Vec} {H O : PH} {u v : Value} (hlen : l.length < 9223372036854775808) (hu : NumO O u l) (hv : NumH H v l) : Cl Tryz.prog 21 [u, v] H O fun r _ O' => r = .bool true ∧ Sub O O' :=
  (Cl.share' (c48t [] [] rfl (by decide) emp _ _ (nilV emp) (nilV emp)).ent fun hd => c48t l l (eqL_refl l) hlen _ _ _ (NumO.share hu hd) (NumH.up hv (un_left H O))).mono fun _ _ _ _ h => ⟨h.2, h.1⟩
/-- Two slices of one's own do not lie in one block. -/
def ApS (a : Value) (la : Nat) (b : Value) : Prop := ∀ n cap, a = .slice (some ⟨n, 0, none⟩) la cap → ∀ lb cap', b ≠ .slice (some ⟨n, 0, none⟩) lb cap'
theorem ap_parts {O M R : PH} {t t' : TypeId} {sz sz' : Nat} {a b : Value} {xs ys : List (List Value)} (hp : Parts O M R) (ha : OwnS R sz t a xs) (hb : OwnS M sz' t' b ys) : ApS a xs.length b := by
  intro n cap ea lb cap' eb
  rcases ha.2 with ⟨e, _⟩ | ⟨n1, c1, s1, e, h1, _⟩
  · rw [ea] at e; cases e
  rcases hb.2 with ⟨e', _⟩ | ⟨n2, c2, s2, e', h2, _⟩
  · rw [eb] at e'; cases e'
  rw [ea] at e; cases e
  rw [eb] at e'; cases e'
  rcases hp.dis n with h | h
  · rw [h2] at h; cases h
  · rw [h1] at h; cases h
theorem OwnS.kept {O O' : PH} {t : TypeId} {sz : Nat} {a b : Value} {la : Nat} {ys : List (List Value)} (hb : OwnS O sz t b ys) (hap : ApS a la b) (hk : ∀ n o, O n = some o → (∀ cap, a ≠ .slice (some ⟨n, 0, none⟩) la cap) → O' n = some o) : OwnS O' sz t b ys := by
  refine ⟨hb.1, ?_⟩
  rcases hb.2 with h | ⟨n2, c2, s2, e', h2, q⟩
  · exact .inl h
  · exact .inr ⟨n2, c2, s2, e', hk _ _ h2 fun cap ea => hap n2 cap ea _ _ e', q⟩
theorem d30t (g : Gt) (hl : g.ws.length < 9223372036854775808) (H : PH) (u w : Value) (hu : IntsC H u g.ws) (hw : IntsC H w g.ws) : Cl Tryz.prog 30 [gv g u, gv g w] H emp fun r _ _ => r = .bool true := by
  have := d30 g g hl H u w hu hw
  rwa [decide_eq_true rfl] at this
theorem nnv_no {x : P4 × Int} : ¬ (!eqCells [.int .i64 x.1.a, .int .i64 x.1.b, .int .i64 x.1.c, .int .i64 x.1.d, .int .i64 x.2] [.int .i64 x.1.a, .int .i64 x.1.b, .int .i64 x.1.c, .int .i64 x.1.d, .int .i64 x.2]) = true := by rw [eqCells_nv]; simp
theorem apply_len (v : Vec) (g : Gt) : (applyV v g).1.length ≤ v.length := by
  unfold applyV
  split
  · simp
  split
  · simp
  · unfold doneG rowsE
    split
    · simp
    · simp
theorem findV_len (v : Vec) (w x : Int) : (findV v w x).1.length ≤ v.length := by
  unfold findV
  split
  · simp
  split
  · simp
  split
  · simp
  · rw [kept_len]; exact Nat.le_refl _
set_option maxHeartbeats 8000000 in
theorem d4 (v : Vec) (g : Gt) (n k : Int) (hv : v.length < 9223372036854775808) (hw0 : g.ws.length < 9223372036854775808) (H : PH) (x w : Value) (hG : GlobH H) (hx : NumH H x v) (hw : IntsC H w g.ws) : Cl Tryz.prog 4 [x, gv g w, .int .i64 n, .int .i64 k] H emp fun r _ _ => r = .bool true := by
  obtain ⟨xb, xc, rfl, _⟩ := id hx
  obtain ⟨wb, wc, rfl, _⟩ := id hw
  refine Cl_of (pol := polL) Γok Tryz.func4 (by kernel_rfl) rfl ?_
  conv => whnf
  intro b1
  conv => whnf
  refine if_intro (fun h1 => ?_) (fun h1 => ?_)
  · conv => whnf
    refine (d9 _ hG).val fun H0 s0 => ?_
    conv => whnf
  conv => whnf
  refine if_intro (fun h2 => ?_) (fun h2 => ?_)
  · conv => whnf
    refine if_intro (fun h3 => ?_) (fun h3 => ?_)
    · conv => whnf
      refine (d9 _ hG).val fun H0 s0 => ?_
      conv => whnf
    have hv100 : v.length ≤ 100000 := by have := eq_of_neq h3; omega
    conv => whnf
    refine if_intro (fun h6 => ?_) (fun h6 => ?_)
    · conv => whnf
      refine (d9 _ hG).val fun H0 s0 => ?_
      conv => whnf
    have h6 : g.ws.length ≤ 6 := by have := of_decide_eq_false h6; omega
    conv => whnf
    refine W_draw (pol := polL) Γok mixes [(0, .pendO), (2, .pend), (3, .pend), (4, .pend), (5, .pend), (7, .pend), (8, .pend), (9, .pend), (10, .pend), (1, .lock), (6, .lock), (11, .pendO), (12, .late), (13, .pendO), (14, .lock)] 136 (by kernel_rfl) rfl ?_
    conv => whnf
    refine (c43' v _ _ hx (by omega)).use fun r H1 s1 hr => ?_
    obtain ⟨_, cx⟩ := hr
    obtain ⟨cxb, cxc, rfl, _⟩ := id cx
    have t1 := s1
    replace hG := GlobH.up hG t1
    replace hx := NumH.up hx t1
    replace hw := IntsC.up hw t1
    conv => whnf
    refine (c16C g.ws (by omega) _ _ hw.h).use fun r H2 s2 hr => ?_
    obtain ⟨_, cw⟩ := hr
    obtain ⟨cwb, cwc, rfl, _⟩ := id cw
    have t2 := s2
    replace hG := GlobH.up hG t2
    replace hx := NumH.up hx t2
    replace hw := IntsC.up hw t2
    replace cx := NumH.up cx t2
    conv => whnf
    intro b3
    conv => whnf
    refine (Cl.outV (d24o v g hv (by omega) _ _ _ hx hw)).use fun r H4 s4 hr => ?_
    obtain ⟨_, wa, rfl, hwa⟩ := hr
    obtain ⟨wab, wac, rfl, _⟩ := id hwa
    have t4 := s4
    replace hG := GlobH.up hG t4
    replace hx := NumH.up hx t4
    replace hw := IntsC.up hw t4
    replace cx := NumH.up cx t4
    replace cw := IntsC.up cw t4
    conv => whnf
    refine (Cl.outV (d25o v n k hv _ _ hx)).use fun r H5 s5 hr => ?_
    obtain ⟨_, fa, rfl, hfa⟩ := hr
    obtain ⟨fab, fac, rfl, _⟩ := id hfa
    have t5 := s5
    replace hG := GlobH.up hG t5
    replace hx := NumH.up hx t5
    replace hw := IntsC.up hw t5
    replace cx := NumH.up cx t5
    replace cw := IntsC.up cw t5
    replace hwa := NumH.up hwa t5
    conv => whnf
    refine (d26 v n hv _ _ hx).val fun H6 s6 => ?_
    have t6 := s6
    replace hG := GlobH.up hG t6
    replace hx := NumH.up hx t6
    replace hw := IntsC.up hw t6
    replace cx := NumH.up cx t6
    replace cw := IntsC.up cw t6
    replace hwa := NumH.up hwa t6
    replace hfa := NumH.up hfa t6
    conv => whnf
    intro b7
    conv => whnf
    refine (d27o v g hv (by omega) _ _ _ cx cw).mono fun r H8 M8 s8 hr => ?_
    obtain ⟨a, rfl, ha⟩ := hr
    obtain ⟨ab, an, ac, rfl⟩ := OwnS.sl ha
    have t8 := s8
    replace hG := GlobH.up hG t8
    replace hx := NumH.up hx t8
    replace hw := IntsC.up hw t8
    replace cx := NumH.up cx t8
    replace cw := IntsC.up cw t8
    replace hwa := NumH.up hwa t8
    replace hfa := NumH.up hfa t8
    conv => whnf
    refine ((d28o v n k hv _ _ cx).pure).mono fun r H9 M9 s9 hr => ?_
    obtain ⟨Mb, hp, b, rfl, hb⟩ := hr
    have hap := ap_parts hp ha hb
    obtain ⟨bb, bn, bc, rfl⟩ := OwnS.sl hb
    have ha2 := OwnS.upS ha hp.right
    have hb2 := OwnS.upS hb hp.left
    have t9 := s9
    replace hG := GlobH.up hG t9
    replace hx := NumH.up hx t9
    replace hw := IntsC.up hw t9
    replace cx := NumH.up cx t9
    replace cw := IntsC.up cw t9
    replace hwa := NumH.up hwa t9
    replace hfa := NumH.up hfa t9
    conv => whnf
    refine (d29 v n hv _ _ cx).val fun H10 s10 => ?_
    have t10 := s10
    replace hG := GlobH.up hG t10
    replace hx := NumH.up hx t10
    replace hw := IntsC.up hw t10
    replace cx := NumH.up cx t10
    replace cw := IntsC.up cw t10
    replace hwa := NumH.up hwa t10
    replace hfa := NumH.up hfa t10
    conv => whnf
    intro b11
    conv => whnf
    refine if_intro (fun h12 => ?_) (fun _ => ?_)
    · exact absurd h12 (bne_no)
    conv => whnf
    refine if_intro (fun h13 => ?_) (fun _ => ?_)
    · exact absurd h13 (bne_no)
    conv => whnf
    refine if_intro (fun h14 => ?_) (fun _ => ?_)
    · exact absurd h14 (bne_no)
    conv => whnf
    refine (c48o (Nat.lt_of_le_of_lt (apply_len v g) hv) ha2 hwa).mono fun r H15 M15 s15 hr => ?_
    obtain ⟨rfl, hO⟩ := hr
    replace ha2 := OwnS.upS ha2 hO
    replace hb2 := OwnS.upS hb2 hO
    have t15 := s15
    replace hG := GlobH.up hG t15
    replace hx := NumH.up hx t15
    replace hw := IntsC.up hw t15
    replace cx := NumH.up cx t15
    replace cw := IntsC.up cw t15
    replace hwa := NumH.up hwa t15
    replace hfa := NumH.up hfa t15
    conv => whnf
    refine (c48o (Nat.lt_of_le_of_lt (findV_len v n k) hv) hb2 hfa).mono fun r H16 M16 s16 hr => ?_
    obtain ⟨rfl, hO2⟩ := hr
    replace ha2 := OwnS.upS ha2 hO2
    replace hb2 := OwnS.upS hb2 hO2
    have t16 := s16
    replace hG := GlobH.up hG t16
    replace hx := NumH.up hx t16
    replace hw := IntsC.up hw t16
    replace cx := NumH.up cx t16
    replace cw := IntsC.up cw t16
    replace hwa := NumH.up hwa t16
    replace hfa := NumH.up hfa t16
    conv => whnf
    refine if_intro (fun h => ?_) (fun _ => ?_)
    · exact absurd h nnv_no
    dsimp only [litK, setK]
    refine codeK_skip ?_
    dsimp only []
    refine seq_stop fun K1 hK1 => ?_
    conv => whnf
    refine OwnS.clear ha2 rfl (by simp [Value.oneCell']) fun O1 hk1 => ?_
    replace hb2 := OwnS.kept hb2 hap hk1
    conv => whnf
    rw [← hK1]
    clear hK1 K1
    refine seq_stop fun K1 hK1 => ?_
    conv => whnf
    refine OwnS.clear hb2 rfl (by simp [Value.oneCell']) fun O2 hk2 => ?_
    conv => whnf
    rw [← hK1]
    clear hK1 K1
    conv => whnf
    refine (c48t v v (eqL_refl _) hv _ _ _ cx hx).val fun H17 s17 => ?_
    have t17 := s17
    replace hG := GlobH.up hG t17
    replace hx := NumH.up hx t17
    replace hw := IntsC.up hw t17
    replace cx := NumH.up cx t17
    replace cw := IntsC.up cw t17
    replace hwa := NumH.up hwa t17
    replace hfa := NumH.up hfa t17
    conv => whnf
    refine (d30t g hw0 _ _ _ cw hw).val fun H18 s18 => ?_
    have t18 := s18
    replace hG := GlobH.up hG t18
    replace hx := NumH.up hx t18
    replace hw := IntsC.up hw t18
    replace cx := NumH.up cx t18
    replace cw := IntsC.up cw t18
    replace hwa := NumH.up hwa t18
    replace hfa := NumH.up hfa t18
    conv => whnf
    refine (d9 _ hG).val fun H19 s19 => ?_
    have t19 := s19
    replace hG := GlobH.up hG t19
    replace hx := NumH.up hx t19
    replace hw := IntsC.up hw t19
    replace cx := NumH.up cx t19
    replace cw := IntsC.up cw t19
    replace hwa := NumH.up hwa t19
    replace hfa := NumH.up hfa t19
    conv => whnf
  have hv100 : v.length ≤ 100000 := by have := of_decide_eq_false h2; omega
  conv => whnf
  refine if_intro (fun h6 => ?_) (fun h6 => ?_)
  · conv => whnf
    refine (d9 _ hG).val fun H0 s0 => ?_
    conv => whnf
  have h6 : g.ws.length ≤ 6 := by have := of_decide_eq_false h6; omega
  conv => whnf
  refine W_draw (pol := polL) Γok mixes [(0, .pendO), (2, .pend), (3, .pend), (4, .pend), (5, .pend), (7, .pend), (8, .pend), (9, .pend), (10, .pend), (1, .lock), (6, .lock), (11, .pendO), (12, .late), (13, .pendO), (14, .lock)] 136 (by kernel_rfl) rfl ?_
  conv => whnf
  refine (c43' v _ _ hx (by omega)).use fun r H1 s1 hr => ?_
  obtain ⟨_, cx⟩ := hr
  obtain ⟨cxb, cxc, rfl, _⟩ := id cx
  have t1 := s1
  replace hG := GlobH.up hG t1
  replace hx := NumH.up hx t1
  replace hw := IntsC.up hw t1
  conv => whnf
  refine (c16C g.ws (by omega) _ _ hw.h).use fun r H2 s2 hr => ?_
  obtain ⟨_, cw⟩ := hr
  obtain ⟨cwb, cwc, rfl, _⟩ := id cw
  have t2 := s2
  replace hG := GlobH.up hG t2
  replace hx := NumH.up hx t2
  replace hw := IntsC.up hw t2
  replace cx := NumH.up cx t2
  conv => whnf
  intro b3
  conv => whnf
  refine (Cl.outV (d24o v g hv (by omega) _ _ _ hx hw)).use fun r H4 s4 hr => ?_
  obtain ⟨_, wa, rfl, hwa⟩ := hr
  obtain ⟨wab, wac, rfl, _⟩ := id hwa
  have t4 := s4
  replace hG := GlobH.up hG t4
  replace hx := NumH.up hx t4
  replace hw := IntsC.up hw t4
  replace cx := NumH.up cx t4
  replace cw := IntsC.up cw t4
  conv => whnf
  refine (Cl.outV (d25o v n k hv _ _ hx)).use fun r H5 s5 hr => ?_
  obtain ⟨_, fa, rfl, hfa⟩ := hr
  obtain ⟨fab, fac, rfl, _⟩ := id hfa
  have t5 := s5
  replace hG := GlobH.up hG t5
  replace hx := NumH.up hx t5
  replace hw := IntsC.up hw t5
  replace cx := NumH.up cx t5
  replace cw := IntsC.up cw t5
  replace hwa := NumH.up hwa t5
  conv => whnf
  refine (d26 v n hv _ _ hx).val fun H6 s6 => ?_
  have t6 := s6
  replace hG := GlobH.up hG t6
  replace hx := NumH.up hx t6
  replace hw := IntsC.up hw t6
  replace cx := NumH.up cx t6
  replace cw := IntsC.up cw t6
  replace hwa := NumH.up hwa t6
  replace hfa := NumH.up hfa t6
  conv => whnf
  intro b7
  conv => whnf
  refine (d27o v g hv (by omega) _ _ _ cx cw).mono fun r H8 M8 s8 hr => ?_
  obtain ⟨a, rfl, ha⟩ := hr
  obtain ⟨ab, an, ac, rfl⟩ := OwnS.sl ha
  have t8 := s8
  replace hG := GlobH.up hG t8
  replace hx := NumH.up hx t8
  replace hw := IntsC.up hw t8
  replace cx := NumH.up cx t8
  replace cw := IntsC.up cw t8
  replace hwa := NumH.up hwa t8
  replace hfa := NumH.up hfa t8
  conv => whnf
  refine ((d28o v n k hv _ _ cx).pure).mono fun r H9 M9 s9 hr => ?_
  obtain ⟨Mb, hp, b, rfl, hb⟩ := hr
  have hap := ap_parts hp ha hb
  obtain ⟨bb, bn, bc, rfl⟩ := OwnS.sl hb
  have ha2 := OwnS.upS ha hp.right
  have hb2 := OwnS.upS hb hp.left
  have t9 := s9
  replace hG := GlobH.up hG t9
  replace hx := NumH.up hx t9
  replace hw := IntsC.up hw t9
  replace cx := NumH.up cx t9
  replace cw := IntsC.up cw t9
  replace hwa := NumH.up hwa t9
  replace hfa := NumH.up hfa t9
  conv => whnf
  refine (d29 v n hv _ _ cx).val fun H10 s10 => ?_
  have t10 := s10
  replace hG := GlobH.up hG t10
  replace hx := NumH.up hx t10
  replace hw := IntsC.up hw t10
  replace cx := NumH.up cx t10
  replace cw := IntsC.up cw t10
  replace hwa := NumH.up hwa t10
  replace hfa := NumH.up hfa t10
  conv => whnf
  intro b11
  conv => whnf
  refine if_intro (fun h12 => ?_) (fun _ => ?_)
  · exact absurd h12 (bne_no)
  conv => whnf
  refine if_intro (fun h13 => ?_) (fun _ => ?_)
  · exact absurd h13 (bne_no)
  conv => whnf
  refine if_intro (fun h14 => ?_) (fun _ => ?_)
  · exact absurd h14 (bne_no)
  conv => whnf
  refine (c48o (Nat.lt_of_le_of_lt (apply_len v g) hv) ha2 hwa).mono fun r H15 M15 s15 hr => ?_
  obtain ⟨rfl, hO⟩ := hr
  replace ha2 := OwnS.upS ha2 hO
  replace hb2 := OwnS.upS hb2 hO
  have t15 := s15
  replace hG := GlobH.up hG t15
  replace hx := NumH.up hx t15
  replace hw := IntsC.up hw t15
  replace cx := NumH.up cx t15
  replace cw := IntsC.up cw t15
  replace hwa := NumH.up hwa t15
  replace hfa := NumH.up hfa t15
  conv => whnf
  refine (c48o (Nat.lt_of_le_of_lt (findV_len v n k) hv) hb2 hfa).mono fun r H16 M16 s16 hr => ?_
  obtain ⟨rfl, hO2⟩ := hr
  replace ha2 := OwnS.upS ha2 hO2
  replace hb2 := OwnS.upS hb2 hO2
  have t16 := s16
  replace hG := GlobH.up hG t16
  replace hx := NumH.up hx t16
  replace hw := IntsC.up hw t16
  replace cx := NumH.up cx t16
  replace cw := IntsC.up cw t16
  replace hwa := NumH.up hwa t16
  replace hfa := NumH.up hfa t16
  conv => whnf
  refine if_intro (fun h => ?_) (fun _ => ?_)
  · exact absurd h nnv_no
  dsimp only [litK, setK]
  refine codeK_skip ?_
  dsimp only []
  refine seq_stop fun K1 hK1 => ?_
  conv => whnf
  refine OwnS.clear ha2 rfl (by simp [Value.oneCell']) fun O1 hk1 => ?_
  replace hb2 := OwnS.kept hb2 hap hk1
  conv => whnf
  rw [← hK1]
  clear hK1 K1
  refine seq_stop fun K1 hK1 => ?_
  conv => whnf
  refine OwnS.clear hb2 rfl (by simp [Value.oneCell']) fun O2 hk2 => ?_
  conv => whnf
  rw [← hK1]
  clear hK1 K1
  conv => whnf
  refine (c48t v v (eqL_refl _) hv _ _ _ cx hx).val fun H17 s17 => ?_
  have t17 := s17
  replace hG := GlobH.up hG t17
  replace hx := NumH.up hx t17
  replace hw := IntsC.up hw t17
  replace cx := NumH.up cx t17
  replace cw := IntsC.up cw t17
  replace hwa := NumH.up hwa t17
  replace hfa := NumH.up hfa t17
  conv => whnf
  refine (d30t g hw0 _ _ _ cw hw).val fun H18 s18 => ?_
  have t18 := s18
  replace hG := GlobH.up hG t18
  replace hx := NumH.up hx t18
  replace hw := IntsC.up hw t18
  replace cx := NumH.up cx t18
  replace cw := IntsC.up cw t18
  replace hwa := NumH.up hwa t18
  replace hfa := NumH.up hfa t18
  conv => whnf
  refine (d9 _ hG).val fun H19 s19 => ?_
  have t19 := s19
  replace hG := GlobH.up hG t19
  replace hx := NumH.up hx t19
  replace hw := IntsC.up hw t19
  replace cx := NumH.up cx t19
  replace cw := IntsC.up cw t19
  replace hwa := NumH.up hwa t19
  replace hfa := NumH.up hfa t19
  conv => whnf
end Go.Proofs.YtmhnalikebkhjaaGreatDoor


namespace Go.Proofs.YtmhnalikebkhjaaGreatDoor
open Go.Proofs.YtmhnalikebkhjaaGreatDoor.X Go.Proofs.YtmhnalikebkhjaaGreatDoor.X.PH Go.ChangeShapes Go.WideShapes Go.ChangeAt Go.RowKit Go.Deep
set_option maxRecDepth 100000
instance : Inhabited Gt := ⟨⟨0, [], 0, 0⟩⟩
section
variable {H : Type} {enc : TypeId × Value → H} {W : World}
theorem open_intsV {fuel : Nat} {cs : List Value} {x : DataW H × List MemPlace} (h : DataW.trod enc Tryz.prog W 0 (fun _ => true) true fuel 26 cs = some x) : ∃ w l, cs = [w] ∧ IntsC (heapP W) w l ∧ l.length ≤ maxLen := by
  obtain ⟨d, p⟩ := x
  rcases open_slice Tryz.underlying26 h with ⟨rfl, _⟩ | ⟨a, len, cap, m, n, D, Pl, rfl, _⟩
  · obtain ⟨l, h1, h2⟩ := open_intsC (d := d) (p := p) ⟨fuel, h⟩
    exact ⟨_, l, rfl, h1, h2⟩
  · obtain ⟨l, h1, h2⟩ := open_intsC (d := d) (p := p) ⟨fuel, h⟩
    exact ⟨_, l, rfl, h1, h2⟩
theorem cells57 : Tryz.prog.cellsOf 57 = 4 := by kernel_rfl
theorem cells24 : Tryz.prog.cellsOf 24 = 3 := by kernel_rfl
theorem cells26 : Tryz.prog.cellsOf 26 = 1 := by kernel_rfl
theorem cells22 : Tryz.prog.cellsOf 22 = 1 := by kernel_rfl
theorem open_gateC {fuel : Nat} {cs : List Value} {x : DataW H × List MemPlace} (h : DataW.trod enc Tryz.prog W 0 (fun _ => true) true fuel 57 cs = some x) : ∃ (g : Gt) (w : Value), cs = [.int .i64 g.kind, w, .int .i64 g.bit, .int .i64 g.cond] ∧ IntsC (heapP W) w g.ws ∧ g.ws.length ≤ maxLen := by
  obtain ⟨xs, n, rfl, rfl, hl, hx, hf⟩ := DataW.trod_struct Tryz.underlying57 h
  rw [cells57] at hl
  have hx4 : xs.length = 4 := hx
  have h0 : DataW.trod enc Tryz.prog W 0 (fun _ => true) true n 3 ((cs.drop 0).take (Tryz.prog.cellsOf 3)) = xs[0]? := hf 0 _ rfl
  have h1 : DataW.trod enc Tryz.prog W 0 (fun _ => true) true n 26 ((cs.drop 1).take (Tryz.prog.cellsOf 26)) = xs[1]? := hf 1 _ rfl
  have h2 : DataW.trod enc Tryz.prog W 0 (fun _ => true) true n 3 ((cs.drop 2).take (Tryz.prog.cellsOf 3)) = xs[2]? := hf 2 _ rfl
  have h3 : DataW.trod enc Tryz.prog W 0 (fun _ => true) true n 3 ((cs.drop 3).take (Tryz.prog.cellsOf 3)) = xs[3]? := hf 3 _ rfl
  rw [cells3, List.getElem?_eq_getElem (by omega)] at h0 h2 h3
  rw [cells26, List.getElem?_eq_getElem (by omega)] at h1
  match cs, hl with
  | [a, b, c, d], _ =>
    obtain ⟨k0, e0, _⟩ := DataW.trod_int Tryz.underlying3 h0
    obtain ⟨w, l, e1, hw, hb⟩ := open_intsV h1
    obtain ⟨k2, e2, _⟩ := DataW.trod_int Tryz.underlying3 h2
    obtain ⟨k3, e3, _⟩ := DataW.trod_int Tryz.underlying3 h3
    simp at e0 e1 e2 e3
    subst e0 e1 e2 e3
    exact ⟨⟨k0, l, k2, k3⟩, _, rfl, hw, hb⟩
theorem open_gatesC {fuel : Nat} {cs : List Value} {x : DataW H × List MemPlace} (h : DataW.trod enc Tryz.prog W 0 (fun _ => true) true fuel 22 cs = some x) : ∃ (w : Value) (gs : List Gt), cs = [w] ∧ GatesH (heapP W) w gs ∧ gs.length ≤ maxLen ∧ ∀ g ∈ gs, g.ws.length ≤ maxLen := by
  rcases open_slice Tryz.underlying22 h with ⟨rfl, _⟩ | ⟨a, len, cap, m, n, D, Pl, rfl, _, hl, hmax, hm, _, hx⟩
  · exact ⟨_, [], rfl, ⟨[], rfl, ⟨(fun c h => by cases h), none, 0, rfl, .inl ⟨rfl, rfl⟩⟩, fun i g c h => by simp at h⟩, by simp, fun g h => by cases h⟩
  simp only [if_true] at hm
  rw [cells57] at hx
  obtain ⟨f, hf⟩ := choose_lt (α := Gt × Value) (n := len) (p := fun i y => W.cells? 0 (a.add (i * 4)) 4 = some [.int .i64 y.1.kind, y.2, .int .i64 y.1.bit, .int .i64 y.1.cond] ∧ IntsC (heapP W) y.2 y.1.ws ∧ y.1.ws.length ≤ maxLen) (fun i hi => by
    obtain ⟨cs', h1, h2⟩ := hx i (by omega)
    obtain ⟨g, w, rfl, hw, hb⟩ := open_gateC h2
    exact ⟨(g, w), h1, hw, hb⟩)
  have hlen : ((List.range len).map fun i => (f i).1).length = len := by simp
  have hmem : ∀ g ∈ (List.range len).map fun i => (f i).1, g.ws.length ≤ maxLen := fun g hg => by
    obtain ⟨i, hi, rfl⟩ := List.mem_map.1 hg
    exact (hf i (List.mem_range.1 hi)).2.2
  have hget : ∀ (i : Nat) g c, ((List.range len).map fun i => (f i).1)[i]? = some g → ((List.range len).map fun i => [Value.int .i64 (f i).1.kind, (f i).2, .int .i64 (f i).1.bit, .int .i64 (f i).1.cond])[i]? = some c → GateC (heapP W) g c := fun i g c h1 h2 => by
    have hi : i < len := by
      have := (List.getElem?_eq_some_iff.1 h1).1
      simpa using this
    rw [List.getElem?_map, List.getElem?_range hi] at h1 h2
    cases h1; cases h2
    exact ⟨_, rfl, (hf i hi).2.1⟩
  refine ⟨_, (List.range len).map fun i => (f i).1, rfl, ⟨(List.range len).map fun i => [Value.int .i64 (f i).1.kind, (f i).2, .int .i64 (f i).1.bit, .int .i64 (f i).1.cond], by simp, ⟨fun c hc => ?_, some a, cap, by simp, ?_⟩, hget⟩, by rw [hlen]; omega, hmem⟩
  · obtain ⟨i, _, rfl⟩ := List.mem_map.1 hc
    rfl
  rcases Nat.eq_zero_or_pos len with h0 | hpos
  · subst h0
    exact .inl ⟨rfl, rfl⟩
  obtain ⟨b, off, c, t, fr, ha, hH, _⟩ := cells_block (hf 0 hpos).1 (by decide)
  have ha' : a = ⟨b, off, none⟩ := by
    rw [Nat.zero_mul] at ha
    exact ha
  subst ha'
  refine .inr ⟨b, off, c, t, fr, rfl, hH, ?_⟩
  have hfam := take_fam 4 (fun y : Gt × Value => [Value.int .i64 y.1.kind, y.2, .int .i64 y.1.bit, .int .i64 y.1.cond]) f (fun _ => rfl) (c.toList.drop off) len fun i hi => by
    obtain ⟨b', off', c', t', fr', ha', hH', hc⟩ := cells_block (hf i hi).1 (by decide)
    rw [addr_add] at ha'
    cases ha'
    rw [hH] at hH'
    cases hH'
    rw [List.drop_drop]
    exact hc
  have hfl : (((List.range len).map fun i => [Value.int .i64 (f i).1.kind, (f i).2, .int .i64 (f i).1.bit, .int .i64 (f i).1.cond]).flatten).length = len * 4 := by
    rw [flat_length (sz := 4) fun c hc => by obtain ⟨i, _, rfl⟩ := List.mem_map.1 hc; rfl]
    simp
  rw [hfl]
  exact hfam
theorem open_gate {r : Reach} {base : Nat} {v : Value} {d : DataW H} {p : List MemPlace} (hv : Value.okWide Tryz.prog W r base 57 v) (h : DataW.Trod enc Tryz.prog W 0 (fun _ => true) true 57 v d p) : ∃ (g : Gt) (w : Value), v = gv g w ∧ IntsC (heapP W) w g.ws ∧ g.ws.length ≤ maxLen := by
  obtain ⟨cs, rfl, _⟩ := okWide_struct Tryz.underlying57 hv
  obtain ⟨fuel, h⟩ := h
  obtain ⟨g, w, hc, h1, h2⟩ := open_gateC h
  obtain ⟨cs⟩ := cs
  have hc : cs = [.int .i64 g.kind, w, .int .i64 g.bit, .int .i64 g.cond] := hc
  exact ⟨g, w, by rw [hc]; rfl, h1, h2⟩
theorem open_circ {r : Reach} {base : Nat} {v : Value} {d : DataW H} {p : List MemPlace} (hv : Value.okWide Tryz.prog W r base 24 v) (h : DataW.Trod enc Tryz.prog W 0 (fun _ => true) true 24 v d p) : ∃ (c : Ct) (w : Value), v = cv c w ∧ GatesH (heapP W) w c.gates ∧ c.gates.length ≤ maxLen := by
  obtain ⟨cs, rfl, _⟩ := okWide_struct Tryz.underlying24 hv
  obtain ⟨fuel, h⟩ := h
  obtain ⟨cs⟩ := cs
  have h : DataW.trod enc Tryz.prog W 0 (fun _ => true) true fuel 24 cs = some (d, p) := h
  obtain ⟨xs, n, rfl, _, hl, hx, hf⟩ := DataW.trod_struct Tryz.underlying24 h
  rw [cells24] at hl
  have hx3 : xs.length = 3 := hx
  have h0 : DataW.trod enc Tryz.prog W 0 (fun _ => true) true n 3 ((cs.drop 0).take (Tryz.prog.cellsOf 3)) = xs[0]? := hf 0 _ rfl
  have h1 : DataW.trod enc Tryz.prog W 0 (fun _ => true) true n 3 ((cs.drop 1).take (Tryz.prog.cellsOf 3)) = xs[1]? := hf 1 _ rfl
  have h2 : DataW.trod enc Tryz.prog W 0 (fun _ => true) true n 22 ((cs.drop 2).take (Tryz.prog.cellsOf 22)) = xs[2]? := hf 2 _ rfl
  rw [cells3, List.getElem?_eq_getElem (by omega)] at h0 h1
  rw [cells22, List.getElem?_eq_getElem (by omega)] at h2
  match cs, hl with
  | [a, b, c], _ =>
    obtain ⟨k0, e0, _⟩ := DataW.trod_int Tryz.underlying3 h0
    obtain ⟨k1, e1, _⟩ := DataW.trod_int Tryz.underlying3 h1
    obtain ⟨w, gs, e2, hw, hb, _⟩ := open_gatesC h2
    simp at e0 e1 e2
    subst e0 e1 e2
    exact ⟨⟨k0, k1, gs⟩, _, rfl, hw, hb⟩
end
end Go.Proofs.YtmhnalikebkhjaaGreatDoor


namespace Go.Proofs.YtmhnalikebkhjaaGreatDoor
open Go.Proofs.YtmhnalikebkhjaaGreatDoor.X Go.Proofs.YtmhnalikebkhjaaGreatDoor.X.PH
set_option maxRecDepth 100000

theorem VecA.blk {O : PH} {v : Value} {l : Vec} {ob : Option Nat} (h : VecA O v l ob) : (ob = none ∧ v = .slice none 0 0 ∧ l = []) ∨ ∃ b cap c, ob = some b ∧ v = .slice (some ⟨b, 0, none⟩) l.length cap ∧ O b = some (.cells c 32 (0, 0)) := by
  rcases h.2 with ⟨a, b, c⟩ | ⟨b, cap, sp, a, e, h, _⟩
  · exact .inl ⟨a, b, by simpa using c⟩
  · exact .inr ⟨b, cap, _, a, by rw [List.length_map] at e; exact e, h⟩
theorem VecA.kept {O O' : PH} {v u : Value} {l k : Vec} {oa ob : Option Nat} (hv : VecA O v l oa) (hu : VecA O u k ob) (hap : Ap oa ob) (hk : ∀ n o, O n = some o → (∀ cap, v ≠ .slice (some ⟨n, 0, none⟩) (l.map cellsOf).length cap) → O' n = some o) : VecA O' u k ob := by
  refine ⟨hu.1, ?_⟩
  rcases hu.2 with h | ⟨b, cap, sp, a, e, h, q⟩
  · exact .inl h
  · refine .inr ⟨b, cap, sp, a, e, hk _ _ h fun c ev => ?_, q⟩
    rcases VecA.blk hv with ⟨_, e2, _⟩ | ⟨b2, c2, _, a2, e2, _⟩
    · rw [e2] at ev; cases ev
    · rw [e2] at ev
      have eb : b2 = b := by simpa using (Value.slice.inj ev).1
      rw [eb] at a2
      exact hap _ a2 a
set_option maxHeartbeats 2000000 in
theorem d39 (b0 : Nat) (rvs : List Value) (rows : Mx) (obs : List (Option Nat)) (hn : rows.length < 1000000) (H M : PH) (h : RowsA M b0 rvs rows obs) : Cl Tryz.prog 39 [.slice (some ⟨b0, 0, none⟩) rows.length rows.length] H M fun _ _ _ => True := by
  have l1 := h.l1
  have l2 := h.l2
  refine Cl_of (pol := polL) Γok Tryz.func39 (by kernel_rfl) rfl ?_
  conv => whnf
  refine W_loop (pol := polL) Γok (Nat × PH) (fun i => i.1 ≤ rows.length ∧ i.2 b0 = some (.cells ⟨rvs⟩ 25 (0, 0)) ∧ ∀ (j : Nat) v r ob, i.1 ≤ j → rvs[j]? = some v → rows[j]? = some r → obs[j]? = some ob → VecA i.2 v r ob) (fun i => rows.length - i.1) (fun i => [(6, .v (.int .i64 i.1))]) (fun _ => []) (fun _ => H) (fun i => i.2) ⟨(0, M), ⟨Nat.zero_le _, h.main, fun j v r ob _ a b c => h.row j v r ob a b c⟩, rfl, rfl, ?_⟩ ?_
  · conv => whnf
    repeat (refine ⟨rfl, ?_⟩; conv => whnf)
    exact trivial
  rintro ⟨i, O⟩ ⟨h1, h2, h3⟩
  dsimp only at h1 h2 h3
  conv => whnf
  refine if_intro (fun hg => ?_) (fun hg => ?_)
  · have hi : i < rows.length := by
      have := of_decide_eq_true hg
      omega
    have hv := h3 i _ _ _ (Nat.le_refl _) (List.getElem?_eq_getElem (by omega)) (List.getElem?_eq_getElem hi) (List.getElem?_eq_getElem (by omega))
    obtain ⟨ub, uc, eu⟩ := VecA.sl hv
    conv => whnf
    refine dec_intro (by omega) ?_
    conv => whnf
    refine ⟨[.slice ub rows[i].length uc], ⟨rfl, rfl, _, _, _, .inr h2, ?_⟩, ?_⟩
    · have ei : (0 + ((i : Nat) : Int).toNat * 1) = i := by omega
      show ((rvs.drop (0 + ((i : Nat) : Int).toNat * 1)).take 1) = _
      rw [ei, ← eu, List.drop_eq_getElem_cons (by omega)]
      rfl
    conv => whnf
    rw [eu] at hv
    refine OwnS.clear (VecA.num hv) rfl (by simp [Value.oneCell']) fun O1 hk => ?_
    conv => whnf
    refine ⟨(i + 1, O1), ⟨hi, ?_, fun j v r ob hj a b c => ?_⟩, by dsimp only; omega, ?_⟩
    · refine hk _ _ h2 fun cap ev => ?_
      rcases VecA.blk hv with ⟨_, e2, _⟩ | ⟨b2, c2, _, a2, e2, _⟩
      · rw [e2] at ev; cases ev
      · rw [e2] at ev
        have eb : b2 = b0 := by simpa using (Value.slice.inj ev).1
        rw [eb] at a2
        exact h.ne i _ (List.getElem?_eq_getElem (by omega)) a2
    · exact VecA.kept hv (h3 j v r ob (by omega) a b c) (h.ap i j _ _ (List.getElem?_eq_getElem (by omega)) c (by omega)) hk
    refine ⟨rfl, rfl, ?_⟩
    conv => whnf
    repeat (refine ⟨rfl, ?_⟩; conv => whnf)
    refine ⟨by show En.v (.int .i64 (IntKind.i64.wrap (i + 1))) = _; rw [wrap_id (by omega) (by omega)] <;> rfl, ?_⟩
    conv => whnf
    repeat (refine ⟨rfl, ?_⟩; conv => whnf)
    exact trivial
  · conv => whnf
    unfold clearK
    refine ⟨some ⟨b0, 0, none⟩, rows.length, rows.length, rfl, rfl, by simp [Value.oneCell'], fun _ => trivial, fun a ha hlt => ⟨b0, 0, _, _, by cases ha; rfl, h2, by rw [l1]; omega, trivial⟩⟩
theorem fit_great {c : Ct} (h : greatC c = false) : c.fit := by
  unfold greatC at h
  rw [Bool.or_eq_false_iff] at h
  obtain ⟨h1, h2⟩ := h
  refine ⟨?_, fun g hg => ?_⟩
  · have := of_decide_eq_false h1
    omega
  · have := List.any_eq_false.1 h2 g hg
    unfold bigG at this
    simp at this
    omega
theorem matC_row (c : Ct) : ∀ r ∈ (matC c).1, r.length ≤ 64 := by
  unfold matC
  by_cases h : plainErr c ≠ 0
  · rw [if_pos h]; simp
  rw [if_neg h]
  obtain ⟨n, hc⟩ := plain_ok (c := c) (by simpa using h)
  obtain ⟨p1, p2⟩ := pow6 hc.n6
  split
  · simp
  · intro r hr
    unfold rowsP at hr
    obtain ⟨i, _, rfl⟩ := List.mem_map.1 hr
    rw [List.length_map, List.length_range, if_neg (by omega), hc.wires, Int.toNat_natCast]
    exact p1
/-- A matrix of one's own, whose rows have grown. -/
def OwnR (M : PH) (u : Value) (m : Mx) : Prop := (u = .slice none 0 0 ∧ m = []) ∨ ∃ b0 rvs obs, u = .slice (some ⟨b0, 0, none⟩) m.length m.length ∧ RowsA M b0 rvs m obs
theorem OwnR.sl {M : PH} {u : Value} {m : Mx} (h : OwnR M u m) : ∃ b n c, u = .slice b n c := by
  rcases h with ⟨rfl, _⟩ | ⟨b0, _, _, rfl, _⟩
  · exact ⟨_, _, _, rfl⟩
  · exact ⟨_, _, _, rfl⟩
theorem OwnR.up {M M' : PH} {u : Value} {m : Mx} (h : OwnR M u m) (hs : Sub M M') : OwnR M' u m := by
  rcases h with h | ⟨b0, rvs, obs, e, h⟩
  · exact .inl h
  · exact .inr ⟨b0, rvs, obs, e, h.up hs⟩
theorem OwnR.mat {H M : PH} {u : Value} {m : Mx} (h : OwnR M u m) (hd : Dis H M) : MatH (un H M) u m := by
  rcases h with ⟨rfl, rfl⟩ | ⟨b0, rvs, obs, rfl, h⟩
  · exact nilM _
  · exact h.mat hd rfl
theorem c52o {m : Mx} {H O : PH} {u v : Value} (hlen : m.length ≤ 64) (hrow : ∀ r ∈ m, r.length ≤ 64) (hu : OwnR O u m) (hv : MatH H v m) : Cl Tryz.prog 38 [u, v] H O fun r _ O' => r = .bool true ∧ Sub O O' :=
  (Cl.share' (c52c [] [] rfl (by decide) (fun r h => by cases h) emp _ _ (nilM emp) (nilM emp)).ent fun hd => c52c m m (eqM_refl m) (by omega) (fun r hr => by have := hrow r hr; omega) _ _ _ (OwnR.mat hu hd) (hv.up (un_left H O))).mono fun _ _ _ _ h => ⟨h.2, h.1⟩
theorem d39r {m : Mx} (hn : m.length ≤ 64) {H M : PH} {u : Value} (h : OwnR M u m) : Cl Tryz.prog 39 [u] H M fun _ _ _ => True := by
  rcases h with ⟨rfl, rfl⟩ | ⟨b0, rvs, obs, rfl, h⟩
  · exact c24nil H M
  · exact d39 b0 rvs m obs (by omega) H M h
theorem d22t (c : Ct) (hc : c.fit) (H : PH) (u v : Value) (hu : CircH H u c) (hv : CircH H v c) : Cl Tryz.prog 22 [u, v] H emp fun r _ _ => r = .bool true := by
  have := d22 c c hc H u v hu hv
  rwa [decide_eq_true rfl, beq_self_eq_true, beq_self_eq_true] at this
set_option maxHeartbeats 16000000 in
theorem d5 (c d : Ct) (n k : Int) (hc0 : c.gates.length < 9223372036854775808) (hd0 : d.gates.length < 9223372036854775808) (H : PH) (x y : Value) (hG : GlobH H) (hc : GatesH H x c.gates) (hd : GatesH H y d.gates) : Cl Tryz.prog 5 [cv c x, cv d y, .int .i64 n, .int .i64 k] H emp fun r _ _ => r = .bool true := by
  obtain ⟨xb, xc, rfl⟩ := hc.sl
  obtain ⟨yb, yc, rfl⟩ := hd.sl
  refine Cl_of (pol := polL) Γok Tryz.func5 (by kernel_rfl) rfl ?_
  conv => whnf
  intro b1
  conv => whnf
  intro b2
  conv => whnf
  refine (d31 c hc0 _ _ ⟨_, rfl, hc⟩).val fun H3 s3 => ?_
  have t3 := s3
  replace hG := GlobH.up hG t3
  replace hc := GatesH.up hc t3
  replace hd := GatesH.up hd t3
  conv => whnf
  refine if_intro (fun h1 => ?_) (fun h1 => ?_)
  · conv => whnf
    refine (d9 _ hG).val fun H0 s0 => ?_
    conv => whnf
  conv => whnf
  refine (d31 d hd0 _ _ ⟨_, rfl, hd⟩).val fun H4 s4 => ?_
  have t4 := s4
  replace hG := GlobH.up hG t4
  replace hc := GatesH.up hc t4
  replace hd := GatesH.up hd t4
  conv => whnf
  refine if_intro (fun h2 => ?_) (fun h2 => ?_)
  · conv => whnf
    refine (d9 _ hG).val fun H0 s0 => ?_
    conv => whnf
  have fc := fit_great h1
  have fd := fit_great h2
  conv => whnf
  refine if_intro (fun h => ?_) (fun h => ?_)
  · conv => whnf
    refine if_intro (fun h => ?_) (fun h => ?_)
    · conv => whnf
      refine (d9 _ hG).val fun H0 s0 => ?_
      conv => whnf
    · conv => whnf
      refine if_intro (fun h => ?_) (fun h => ?_)
      · conv => whnf
        refine if_intro (fun h => ?_) (fun h => ?_)
        · conv => whnf
          refine (d9 _ hG).val fun H0 s0 => ?_
          conv => whnf
        · conv => whnf
          refine W_draw (pol := polL) Γok mixes [(0, .pendO), (2, .pend), (1, .lock), (3, .lock), (4, .late), (5, .late), (6, .lock), (7, .lock)] 132 (by kernel_rfl) rfl ?_
          conv => whnf
          refine (d10 c fc _ _ ⟨_, rfl, hc⟩).use fun r H1 s1 hr => ?_
          obtain ⟨_, cx, rfl, hx⟩ := hr
          obtain ⟨cxb, cxc, rfl⟩ := hx.sl
          have t1 := s1
          replace hG := GlobH.up hG t1
          replace hc := GatesH.up hc t1
          replace hd := GatesH.up hd t1
          conv => whnf
          refine (d10 d fd _ _ ⟨_, rfl, hd⟩).use fun r H2 s2 hr => ?_
          obtain ⟨_, cy, rfl, hy⟩ := hr
          obtain ⟨cyb, cyc, rfl⟩ := hy.sl
          have t2 := s2
          replace hG := GlobH.up hG t2
          replace hc := GatesH.up hc t2
          replace hd := GatesH.up hd t2
          replace hx := GatesH.up hx t2
          conv => whnf
          intro b3
          conv => whnf
          intro b4
          conv => whnf
          refine (Cl.outR (d32o c fc _ _ ⟨_, rfl, hc⟩)).use fun r H5 s5 hr => ?_
          obtain ⟨_, ma, rfl, hma⟩ := hr
          obtain ⟨mab, mac, rfl⟩ := hma.sl
          have t5 := s5
          replace hG := GlobH.up hG t5
          replace hc := GatesH.up hc t5
          replace hd := GatesH.up hd t5
          replace hx := GatesH.up hx t5
          replace hy := GatesH.up hy t5
          conv => whnf
          refine (d33 c n k fc _ _ ⟨_, rfl, hc⟩).val fun H6 s6 => ?_
          have t6 := s6
          replace hG := GlobH.up hG t6
          replace hc := GatesH.up hc t6
          replace hd := GatesH.up hd t6
          replace hx := GatesH.up hx t6
          replace hy := GatesH.up hy t6
          replace hma := MatH.up hma t6
          conv => whnf
          intro b7
          conv => whnf
          refine (d34 c d fc fd _ _ _ ⟨_, rfl, hc⟩ ⟨_, rfl, hd⟩).val fun H8 s8 => ?_
          have t8 := s8
          replace hG := GlobH.up hG t8
          replace hc := GatesH.up hc t8
          replace hd := GatesH.up hd t8
          replace hx := GatesH.up hx t8
          replace hy := GatesH.up hy t8
          replace hma := MatH.up hma t8
          conv => whnf
          refine (d35o c fc _ _ ⟨_, rfl, hx⟩).mono fun r H9 M9 s9 hr => ?_
          obtain ⟨a, rfl, ha⟩ := hr
          have ha : OwnR _ a _ := ha
          obtain ⟨ab, an, ac, rfl⟩ := OwnR.sl ha
          have t9 := s9
          replace hG := GlobH.up hG t9
          replace hc := GatesH.up hc t9
          replace hd := GatesH.up hd t9
          replace hx := GatesH.up hx t9
          replace hy := GatesH.up hy t9
          replace hma := MatH.up hma t9
          conv => whnf
          refine (d36 c n k fc _ _ ⟨_, rfl, hx⟩).val fun H10 s10 => ?_
          have t10 := s10
          replace hG := GlobH.up hG t10
          replace hc := GatesH.up hc t10
          replace hd := GatesH.up hd t10
          replace hx := GatesH.up hx t10
          replace hy := GatesH.up hy t10
          replace hma := MatH.up hma t10
          conv => whnf
          intro b11
          conv => whnf
          refine (d37 c d fc fd _ _ _ ⟨_, rfl, hx⟩ ⟨_, rfl, hy⟩).val fun H12 s12 => ?_
          have t12 := s12
          replace hG := GlobH.up hG t12
          replace hc := GatesH.up hc t12
          replace hd := GatesH.up hd t12
          replace hx := GatesH.up hx t12
          replace hy := GatesH.up hy t12
          replace hma := MatH.up hma t12
          conv => whnf
          refine if_intro (fun h13 => ?_) (fun _ => ?_)
          · exact absurd h13 (bne_no)
          conv => whnf
          refine if_intro (fun h14 => ?_) (fun _ => ?_)
          · exact absurd h14 (bne_no)
          conv => whnf
          refine if_intro (fun h15 => ?_) (fun _ => ?_)
          · exact absurd h15 (bne_no)
          conv => whnf
          refine (c52o (matC_len c) (matC_row c) ha hma).mono fun r H16 M16 s16 hr => ?_
          obtain ⟨rfl, hO⟩ := hr
          replace ha := OwnR.up ha hO
          have t16 := s16
          replace hG := GlobH.up hG t16
          replace hc := GatesH.up hc t16
          replace hd := GatesH.up hd t16
          replace hx := GatesH.up hx t16
          replace hy := GatesH.up hy t16
          replace hma := MatH.up hma t16
          conv => whnf
          refine if_intro (fun h17 => ?_) (fun _ => ?_)
          · exact absurd h17 (nnv_no)
          conv => whnf
          refine if_intro (fun h => ?_) (fun _ => ?_)
          · exact absurd h bne_no
          dsimp only [litK, setK]
          refine codeK_skip ?_
          dsimp only []
          refine seq_stop fun K1 hK1 => ?_
          conv => whnf
          refine (d39r (matC_len c) ha).mono fun r H18 M18 s18 hr => ?_
          have t18 := s18
          replace hG := GlobH.up hG t18
          replace hc := GatesH.up hc t18
          replace hd := GatesH.up hd t18
          replace hx := GatesH.up hx t18
          replace hy := GatesH.up hy t18
          replace hma := MatH.up hma t18
          conv => whnf
          rw [← hK1]
          clear hK1 K1
          conv => whnf
          refine (d22t c fc _ _ _ ⟨_, rfl, hx⟩ ⟨_, rfl, hc⟩).val fun H19 s19 => ?_
          have t19 := s19
          replace hG := GlobH.up hG t19
          replace hc := GatesH.up hc t19
          replace hd := GatesH.up hd t19
          replace hx := GatesH.up hx t19
          replace hy := GatesH.up hy t19
          replace hma := MatH.up hma t19
          conv => whnf
          refine (d22t d fd _ _ _ ⟨_, rfl, hy⟩ ⟨_, rfl, hd⟩).val fun H20 s20 => ?_
          have t20 := s20
          replace hG := GlobH.up hG t20
          replace hc := GatesH.up hc t20
          replace hd := GatesH.up hd t20
          replace hx := GatesH.up hx t20
          replace hy := GatesH.up hy t20
          replace hma := MatH.up hma t20
          conv => whnf
          refine (d9 _ hG).val fun H21 s21 => ?_
          have t21 := s21
          replace hG := GlobH.up hG t21
          replace hc := GatesH.up hc t21
          replace hd := GatesH.up hd t21
          replace hx := GatesH.up hx t21
          replace hy := GatesH.up hy t21
          replace hma := MatH.up hma t21
          conv => whnf
      · conv => whnf
        refine W_draw (pol := polL) Γok mixes [(0, .pendO), (2, .pend), (1, .lock), (3, .lock), (4, .late), (5, .late), (6, .lock), (7, .lock)] 132 (by kernel_rfl) rfl ?_
        conv => whnf
        refine (d10 c fc _ _ ⟨_, rfl, hc⟩).use fun r H1 s1 hr => ?_
        obtain ⟨_, cx, rfl, hx⟩ := hr
        obtain ⟨cxb, cxc, rfl⟩ := hx.sl
        have t1 := s1
        replace hG := GlobH.up hG t1
        replace hc := GatesH.up hc t1
        replace hd := GatesH.up hd t1
        conv => whnf
        refine (d10 d fd _ _ ⟨_, rfl, hd⟩).use fun r H2 s2 hr => ?_
        obtain ⟨_, cy, rfl, hy⟩ := hr
        obtain ⟨cyb, cyc, rfl⟩ := hy.sl
        have t2 := s2
        replace hG := GlobH.up hG t2
        replace hc := GatesH.up hc t2
        replace hd := GatesH.up hd t2
        replace hx := GatesH.up hx t2
        conv => whnf
        intro b3
        conv => whnf
        intro b4
        conv => whnf
        refine (Cl.outR (d32o c fc _ _ ⟨_, rfl, hc⟩)).use fun r H5 s5 hr => ?_
        obtain ⟨_, ma, rfl, hma⟩ := hr
        obtain ⟨mab, mac, rfl⟩ := hma.sl
        have t5 := s5
        replace hG := GlobH.up hG t5
        replace hc := GatesH.up hc t5
        replace hd := GatesH.up hd t5
        replace hx := GatesH.up hx t5
        replace hy := GatesH.up hy t5
        conv => whnf
        refine (d33 c n k fc _ _ ⟨_, rfl, hc⟩).val fun H6 s6 => ?_
        have t6 := s6
        replace hG := GlobH.up hG t6
        replace hc := GatesH.up hc t6
        replace hd := GatesH.up hd t6
        replace hx := GatesH.up hx t6
        replace hy := GatesH.up hy t6
        replace hma := MatH.up hma t6
        conv => whnf
        intro b7
        conv => whnf
        refine (d34 c d fc fd _ _ _ ⟨_, rfl, hc⟩ ⟨_, rfl, hd⟩).val fun H8 s8 => ?_
        have t8 := s8
        replace hG := GlobH.up hG t8
        replace hc := GatesH.up hc t8
        replace hd := GatesH.up hd t8
        replace hx := GatesH.up hx t8
        replace hy := GatesH.up hy t8
        replace hma := MatH.up hma t8
        conv => whnf
        refine (d35o c fc _ _ ⟨_, rfl, hx⟩).mono fun r H9 M9 s9 hr => ?_
        obtain ⟨a, rfl, ha⟩ := hr
        have ha : OwnR _ a _ := ha
        obtain ⟨ab, an, ac, rfl⟩ := OwnR.sl ha
        have t9 := s9
        replace hG := GlobH.up hG t9
        replace hc := GatesH.up hc t9
        replace hd := GatesH.up hd t9
        replace hx := GatesH.up hx t9
        replace hy := GatesH.up hy t9
        replace hma := MatH.up hma t9
        conv => whnf
        refine (d36 c n k fc _ _ ⟨_, rfl, hx⟩).val fun H10 s10 => ?_
        have t10 := s10
        replace hG := GlobH.up hG t10
        replace hc := GatesH.up hc t10
        replace hd := GatesH.up hd t10
        replace hx := GatesH.up hx t10
        replace hy := GatesH.up hy t10
        replace hma := MatH.up hma t10
        conv => whnf
        intro b11
        conv => whnf
        refine (d37 c d fc fd _ _ _ ⟨_, rfl, hx⟩ ⟨_, rfl, hy⟩).val fun H12 s12 => ?_
        have t12 := s12
        replace hG := GlobH.up hG t12
        replace hc := GatesH.up hc t12
        replace hd := GatesH.up hd t12
        replace hx := GatesH.up hx t12
        replace hy := GatesH.up hy t12
        replace hma := MatH.up hma t12
        conv => whnf
        refine if_intro (fun h13 => ?_) (fun _ => ?_)
        · exact absurd h13 (bne_no)
        conv => whnf
        refine if_intro (fun h14 => ?_) (fun _ => ?_)
        · exact absurd h14 (bne_no)
        conv => whnf
        refine if_intro (fun h15 => ?_) (fun _ => ?_)
        · exact absurd h15 (bne_no)
        conv => whnf
        refine (c52o (matC_len c) (matC_row c) ha hma).mono fun r H16 M16 s16 hr => ?_
        obtain ⟨rfl, hO⟩ := hr
        replace ha := OwnR.up ha hO
        have t16 := s16
        replace hG := GlobH.up hG t16
        replace hc := GatesH.up hc t16
        replace hd := GatesH.up hd t16
        replace hx := GatesH.up hx t16
        replace hy := GatesH.up hy t16
        replace hma := MatH.up hma t16
        conv => whnf
        refine if_intro (fun h17 => ?_) (fun _ => ?_)
        · exact absurd h17 (nnv_no)
        conv => whnf
        refine if_intro (fun h => ?_) (fun _ => ?_)
        · exact absurd h bne_no
        dsimp only [litK, setK]
        refine codeK_skip ?_
        dsimp only []
        refine seq_stop fun K1 hK1 => ?_
        conv => whnf
        refine (d39r (matC_len c) ha).mono fun r H18 M18 s18 hr => ?_
        have t18 := s18
        replace hG := GlobH.up hG t18
        replace hc := GatesH.up hc t18
        replace hd := GatesH.up hd t18
        replace hx := GatesH.up hx t18
        replace hy := GatesH.up hy t18
        replace hma := MatH.up hma t18
        conv => whnf
        rw [← hK1]
        clear hK1 K1
        conv => whnf
        refine (d22t c fc _ _ _ ⟨_, rfl, hx⟩ ⟨_, rfl, hc⟩).val fun H19 s19 => ?_
        have t19 := s19
        replace hG := GlobH.up hG t19
        replace hc := GatesH.up hc t19
        replace hd := GatesH.up hd t19
        replace hx := GatesH.up hx t19
        replace hy := GatesH.up hy t19
        replace hma := MatH.up hma t19
        conv => whnf
        refine (d22t d fd _ _ _ ⟨_, rfl, hy⟩ ⟨_, rfl, hd⟩).val fun H20 s20 => ?_
        have t20 := s20
        replace hG := GlobH.up hG t20
        replace hc := GatesH.up hc t20
        replace hd := GatesH.up hd t20
        replace hx := GatesH.up hx t20
        replace hy := GatesH.up hy t20
        replace hma := MatH.up hma t20
        conv => whnf
        refine (d9 _ hG).val fun H21 s21 => ?_
        have t21 := s21
        replace hG := GlobH.up hG t21
        replace hc := GatesH.up hc t21
        replace hd := GatesH.up hd t21
        replace hx := GatesH.up hx t21
        replace hy := GatesH.up hy t21
        replace hma := MatH.up hma t21
        conv => whnf
  · conv => whnf
    refine if_intro (fun h => ?_) (fun h => ?_)
    · conv => whnf
      refine if_intro (fun h => ?_) (fun h => ?_)
      · conv => whnf
        refine (d9 _ hG).val fun H0 s0 => ?_
        conv => whnf
      · conv => whnf
        refine W_draw (pol := polL) Γok mixes [(0, .pendO), (2, .pend), (1, .lock), (3, .lock), (4, .late), (5, .late), (6, .lock), (7, .lock)] 132 (by kernel_rfl) rfl ?_
        conv => whnf
        refine (d10 c fc _ _ ⟨_, rfl, hc⟩).use fun r H1 s1 hr => ?_
        obtain ⟨_, cx, rfl, hx⟩ := hr
        obtain ⟨cxb, cxc, rfl⟩ := hx.sl
        have t1 := s1
        replace hG := GlobH.up hG t1
        replace hc := GatesH.up hc t1
        replace hd := GatesH.up hd t1
        conv => whnf
        refine (d10 d fd _ _ ⟨_, rfl, hd⟩).use fun r H2 s2 hr => ?_
        obtain ⟨_, cy, rfl, hy⟩ := hr
        obtain ⟨cyb, cyc, rfl⟩ := hy.sl
        have t2 := s2
        replace hG := GlobH.up hG t2
        replace hc := GatesH.up hc t2
        replace hd := GatesH.up hd t2
        replace hx := GatesH.up hx t2
        conv => whnf
        intro b3
        conv => whnf
        intro b4
        conv => whnf
        refine (Cl.outR (d32o c fc _ _ ⟨_, rfl, hc⟩)).use fun r H5 s5 hr => ?_
        obtain ⟨_, ma, rfl, hma⟩ := hr
        obtain ⟨mab, mac, rfl⟩ := hma.sl
        have t5 := s5
        replace hG := GlobH.up hG t5
        replace hc := GatesH.up hc t5
        replace hd := GatesH.up hd t5
        replace hx := GatesH.up hx t5
        replace hy := GatesH.up hy t5
        conv => whnf
        refine (d33 c n k fc _ _ ⟨_, rfl, hc⟩).val fun H6 s6 => ?_
        have t6 := s6
        replace hG := GlobH.up hG t6
        replace hc := GatesH.up hc t6
        replace hd := GatesH.up hd t6
        replace hx := GatesH.up hx t6
        replace hy := GatesH.up hy t6
        replace hma := MatH.up hma t6
        conv => whnf
        intro b7
        conv => whnf
        refine (d34 c d fc fd _ _ _ ⟨_, rfl, hc⟩ ⟨_, rfl, hd⟩).val fun H8 s8 => ?_
        have t8 := s8
        replace hG := GlobH.up hG t8
        replace hc := GatesH.up hc t8
        replace hd := GatesH.up hd t8
        replace hx := GatesH.up hx t8
        replace hy := GatesH.up hy t8
        replace hma := MatH.up hma t8
        conv => whnf
        refine (d35o c fc _ _ ⟨_, rfl, hx⟩).mono fun r H9 M9 s9 hr => ?_
        obtain ⟨a, rfl, ha⟩ := hr
        have ha : OwnR _ a _ := ha
        obtain ⟨ab, an, ac, rfl⟩ := OwnR.sl ha
        have t9 := s9
        replace hG := GlobH.up hG t9
        replace hc := GatesH.up hc t9
        replace hd := GatesH.up hd t9
        replace hx := GatesH.up hx t9
        replace hy := GatesH.up hy t9
        replace hma := MatH.up hma t9
        conv => whnf
        refine (d36 c n k fc _ _ ⟨_, rfl, hx⟩).val fun H10 s10 => ?_
        have t10 := s10
        replace hG := GlobH.up hG t10
        replace hc := GatesH.up hc t10
        replace hd := GatesH.up hd t10
        replace hx := GatesH.up hx t10
        replace hy := GatesH.up hy t10
        replace hma := MatH.up hma t10
        conv => whnf
        intro b11
        conv => whnf
        refine (d37 c d fc fd _ _ _ ⟨_, rfl, hx⟩ ⟨_, rfl, hy⟩).val fun H12 s12 => ?_
        have t12 := s12
        replace hG := GlobH.up hG t12
        replace hc := GatesH.up hc t12
        replace hd := GatesH.up hd t12
        replace hx := GatesH.up hx t12
        replace hy := GatesH.up hy t12
        replace hma := MatH.up hma t12
        conv => whnf
        refine if_intro (fun h13 => ?_) (fun _ => ?_)
        · exact absurd h13 (bne_no)
        conv => whnf
        refine if_intro (fun h14 => ?_) (fun _ => ?_)
        · exact absurd h14 (bne_no)
        conv => whnf
        refine if_intro (fun h15 => ?_) (fun _ => ?_)
        · exact absurd h15 (bne_no)
        conv => whnf
        refine (c52o (matC_len c) (matC_row c) ha hma).mono fun r H16 M16 s16 hr => ?_
        obtain ⟨rfl, hO⟩ := hr
        replace ha := OwnR.up ha hO
        have t16 := s16
        replace hG := GlobH.up hG t16
        replace hc := GatesH.up hc t16
        replace hd := GatesH.up hd t16
        replace hx := GatesH.up hx t16
        replace hy := GatesH.up hy t16
        replace hma := MatH.up hma t16
        conv => whnf
        refine if_intro (fun h17 => ?_) (fun _ => ?_)
        · exact absurd h17 (nnv_no)
        conv => whnf
        refine if_intro (fun h => ?_) (fun _ => ?_)
        · exact absurd h bne_no
        dsimp only [litK, setK]
        refine codeK_skip ?_
        dsimp only []
        refine seq_stop fun K1 hK1 => ?_
        conv => whnf
        refine (d39r (matC_len c) ha).mono fun r H18 M18 s18 hr => ?_
        have t18 := s18
        replace hG := GlobH.up hG t18
        replace hc := GatesH.up hc t18
        replace hd := GatesH.up hd t18
        replace hx := GatesH.up hx t18
        replace hy := GatesH.up hy t18
        replace hma := MatH.up hma t18
        conv => whnf
        rw [← hK1]
        clear hK1 K1
        conv => whnf
        refine (d22t c fc _ _ _ ⟨_, rfl, hx⟩ ⟨_, rfl, hc⟩).val fun H19 s19 => ?_
        have t19 := s19
        replace hG := GlobH.up hG t19
        replace hc := GatesH.up hc t19
        replace hd := GatesH.up hd t19
        replace hx := GatesH.up hx t19
        replace hy := GatesH.up hy t19
        replace hma := MatH.up hma t19
        conv => whnf
        refine (d22t d fd _ _ _ ⟨_, rfl, hy⟩ ⟨_, rfl, hd⟩).val fun H20 s20 => ?_
        have t20 := s20
        replace hG := GlobH.up hG t20
        replace hc := GatesH.up hc t20
        replace hd := GatesH.up hd t20
        replace hx := GatesH.up hx t20
        replace hy := GatesH.up hy t20
        replace hma := MatH.up hma t20
        conv => whnf
        refine (d9 _ hG).val fun H21 s21 => ?_
        have t21 := s21
        replace hG := GlobH.up hG t21
        replace hc := GatesH.up hc t21
        replace hd := GatesH.up hd t21
        replace hx := GatesH.up hx t21
        replace hy := GatesH.up hy t21
        replace hma := MatH.up hma t21
        conv => whnf
    · conv => whnf
      refine W_draw (pol := polL) Γok mixes [(0, .pendO), (2, .pend), (1, .lock), (3, .lock), (4, .late), (5, .late), (6, .lock), (7, .lock)] 132 (by kernel_rfl) rfl ?_
      conv => whnf
      refine (d10 c fc _ _ ⟨_, rfl, hc⟩).use fun r H1 s1 hr => ?_
      obtain ⟨_, cx, rfl, hx⟩ := hr
      obtain ⟨cxb, cxc, rfl⟩ := hx.sl
      have t1 := s1
      replace hG := GlobH.up hG t1
      replace hc := GatesH.up hc t1
      replace hd := GatesH.up hd t1
      conv => whnf
      refine (d10 d fd _ _ ⟨_, rfl, hd⟩).use fun r H2 s2 hr => ?_
      obtain ⟨_, cy, rfl, hy⟩ := hr
      obtain ⟨cyb, cyc, rfl⟩ := hy.sl
      have t2 := s2
      replace hG := GlobH.up hG t2
      replace hc := GatesH.up hc t2
      replace hd := GatesH.up hd t2
      replace hx := GatesH.up hx t2
      conv => whnf
      intro b3
      conv => whnf
      intro b4
      conv => whnf
      refine (Cl.outR (d32o c fc _ _ ⟨_, rfl, hc⟩)).use fun r H5 s5 hr => ?_
      obtain ⟨_, ma, rfl, hma⟩ := hr
      obtain ⟨mab, mac, rfl⟩ := hma.sl
      have t5 := s5
      replace hG := GlobH.up hG t5
      replace hc := GatesH.up hc t5
      replace hd := GatesH.up hd t5
      replace hx := GatesH.up hx t5
      replace hy := GatesH.up hy t5
      conv => whnf
      refine (d33 c n k fc _ _ ⟨_, rfl, hc⟩).val fun H6 s6 => ?_
      have t6 := s6
      replace hG := GlobH.up hG t6
      replace hc := GatesH.up hc t6
      replace hd := GatesH.up hd t6
      replace hx := GatesH.up hx t6
      replace hy := GatesH.up hy t6
      replace hma := MatH.up hma t6
      conv => whnf
      intro b7
      conv => whnf
      refine (d34 c d fc fd _ _ _ ⟨_, rfl, hc⟩ ⟨_, rfl, hd⟩).val fun H8 s8 => ?_
      have t8 := s8
      replace hG := GlobH.up hG t8
      replace hc := GatesH.up hc t8
      replace hd := GatesH.up hd t8
      replace hx := GatesH.up hx t8
      replace hy := GatesH.up hy t8
      replace hma := MatH.up hma t8
      conv => whnf
      refine (d35o c fc _ _ ⟨_, rfl, hx⟩).mono fun r H9 M9 s9 hr => ?_
      obtain ⟨a, rfl, ha⟩ := hr
      have ha : OwnR _ a _ := ha
      obtain ⟨ab, an, ac, rfl⟩ := OwnR.sl ha
      have t9 := s9
      replace hG := GlobH.up hG t9
      replace hc := GatesH.up hc t9
      replace hd := GatesH.up hd t9
      replace hx := GatesH.up hx t9
      replace hy := GatesH.up hy t9
      replace hma := MatH.up hma t9
      conv => whnf
      refine (d36 c n k fc _ _ ⟨_, rfl, hx⟩).val fun H10 s10 => ?_
      have t10 := s10
      replace hG := GlobH.up hG t10
      replace hc := GatesH.up hc t10
      replace hd := GatesH.up hd t10
      replace hx := GatesH.up hx t10
      replace hy := GatesH.up hy t10
      replace hma := MatH.up hma t10
      conv => whnf
      intro b11
      conv => whnf
      refine (d37 c d fc fd _ _ _ ⟨_, rfl, hx⟩ ⟨_, rfl, hy⟩).val fun H12 s12 => ?_
      have t12 := s12
      replace hG := GlobH.up hG t12
      replace hc := GatesH.up hc t12
      replace hd := GatesH.up hd t12
      replace hx := GatesH.up hx t12
      replace hy := GatesH.up hy t12
      replace hma := MatH.up hma t12
      conv => whnf
      refine if_intro (fun h13 => ?_) (fun _ => ?_)
      · exact absurd h13 (bne_no)
      conv => whnf
      refine if_intro (fun h14 => ?_) (fun _ => ?_)
      · exact absurd h14 (bne_no)
      conv => whnf
      refine if_intro (fun h15 => ?_) (fun _ => ?_)
      · exact absurd h15 (bne_no)
      conv => whnf
      refine (c52o (matC_len c) (matC_row c) ha hma).mono fun r H16 M16 s16 hr => ?_
      obtain ⟨rfl, hO⟩ := hr
      replace ha := OwnR.up ha hO
      have t16 := s16
      replace hG := GlobH.up hG t16
      replace hc := GatesH.up hc t16
      replace hd := GatesH.up hd t16
      replace hx := GatesH.up hx t16
      replace hy := GatesH.up hy t16
      replace hma := MatH.up hma t16
      conv => whnf
      refine if_intro (fun h17 => ?_) (fun _ => ?_)
      · exact absurd h17 (nnv_no)
      conv => whnf
      refine if_intro (fun h => ?_) (fun _ => ?_)
      · exact absurd h bne_no
      dsimp only [litK, setK]
      refine codeK_skip ?_
      dsimp only []
      refine seq_stop fun K1 hK1 => ?_
      conv => whnf
      refine (d39r (matC_len c) ha).mono fun r H18 M18 s18 hr => ?_
      have t18 := s18
      replace hG := GlobH.up hG t18
      replace hc := GatesH.up hc t18
      replace hd := GatesH.up hd t18
      replace hx := GatesH.up hx t18
      replace hy := GatesH.up hy t18
      replace hma := MatH.up hma t18
      conv => whnf
      rw [← hK1]
      clear hK1 K1
      conv => whnf
      refine (d22t c fc _ _ _ ⟨_, rfl, hx⟩ ⟨_, rfl, hc⟩).val fun H19 s19 => ?_
      have t19 := s19
      replace hG := GlobH.up hG t19
      replace hc := GatesH.up hc t19
      replace hd := GatesH.up hd t19
      replace hx := GatesH.up hx t19
      replace hy := GatesH.up hy t19
      replace hma := MatH.up hma t19
      conv => whnf
      refine (d22t d fd _ _ _ ⟨_, rfl, hy⟩ ⟨_, rfl, hd⟩).val fun H20 s20 => ?_
      have t20 := s20
      replace hG := GlobH.up hG t20
      replace hc := GatesH.up hc t20
      replace hd := GatesH.up hd t20
      replace hx := GatesH.up hx t20
      replace hy := GatesH.up hy t20
      replace hma := MatH.up hma t20
      conv => whnf
      refine (d9 _ hG).val fun H21 s21 => ?_
      have t21 := s21
      replace hG := GlobH.up hG t21
      replace hc := GatesH.up hc t21
      replace hd := GatesH.up hd t21
      replace hx := GatesH.up hx t21
      replace hy := GatesH.up hy t21
      replace hma := MatH.up hma t21
      conv => whnf
end Go.Proofs.YtmhnalikebkhjaaGreatDoor
