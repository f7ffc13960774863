/- A logic for code of the model, proved sound, and what functions do that the laws on matrices come to; nothing is asked. Part 7. -/
import Derived.Test.YtmhnalikebkhjaaGreatDoorM6

set_option linter.unusedVariables false
set_option linter.unusedSimpArgs false
set_option linter.unnecessarySimpa false


namespace Go.Proofs.YtmhnalikebkhjaaGreatDoor
open Go.Proofs.YtmhnalikebkhjaaGreatDoor.X Go.Proofs.YtmhnalikebkhjaaGreatDoor.X.PH
set_option maxRecDepth 100000

def isM (g : Gt) : Bool := (g.kind == 13) || (g.kind == 14)
def foundN (l : List Gt) : Nat := (l.filter isM).length
theorem foundN_snoc {l : List Gt} {i : Nat} (hi : i < l.length) : foundN (l.take (i + 1)) = foundN (l.take i) + if isM l[i] = true then 1 else 0 := by
  unfold foundN
  rw [List.take_succ_eq_append_getElem hi, List.filter_append, List.length_append]
  by_cases h : isM l[i] = true
  · simp [h]
  · simp [h]
theorem foundN_le (l : List Gt) (i : Nat) : foundN (l.take i) ≤ i := by
  unfold foundN
  refine Nat.le_trans (List.length_filter_le _ _) ?_
  rw [List.length_take]
  omega
def beginErr (c : Ct) (v : Vec) : Int := if circErr c ≠ 0 then circErr c else if stErr v ≠ 0 then stErr v else if sizeI v.length ≠ c.wires then 7 else if foundN c.gates > 8 then 2 else 0
theorem d57 (c : Ct) (hc : c.fit) (H : PH) (x : Value) (hx : CircH H x c) : Cl Tryz.prog 57 [x] H emp fun r _ _ => r = .int .i64 (foundN c.gates) := by
  obtain ⟨gb, gc, rfl, hg⟩ := hx.sl
  have hlen := hc.1
  refine Cl_of (pol := polL) Γok Tryz.func57 (by kernel_rfl) rfl ?_
  conv => whnf
  intro b1
  conv => whnf
  refine W_loop (pol := polL) Γok (Nat × PH) (fun i => i.1 ≤ c.gates.length ∧ Sub H i.2) (fun i => c.gates.length - i.1) (fun i => [(3, .v (.int .i64 (foundN (c.gates.take i.1)))), (4, .v (.int .i64 i.1))]) (fun _ => []) (fun i => i.2) (fun _ => emp) ⟨(0, H), ⟨by simp, Sub.refl _⟩, rfl, rfl, ?_⟩ ?_
  · conv => whnf
    repeat (refine ⟨rfl, ?_⟩; conv => whnf)
    exact trivial
  rintro ⟨i, Hi⟩ ⟨h1i, hsi⟩
  dsimp only at h1i hsi
  conv => whnf
  refine if_intro (fun hci => ?_) (fun hci => ?_)
  · have hii : i < c.gates.length := by
      have := of_decide_eq_true hci
      omega
    have hle := foundN_le c.gates i
    obtain ⟨b, off, w, wb, wc, rfl, hw, hrd, hwe⟩ := hg.rd hii
    subst hw
    have hb := hrd Hi emp hsi
    have hb0 : Rd Hi emp ⟨b, off + i * 4 + 0, none⟩ 1 [.int .i64 c.gates[i].kind] := Rd_part hb 0 1 (by omega) rfl
    conv => whnf
    refine dec_intro (by omega) ?_
    conv => whnf
    refine ⟨_, hb0, ?_⟩
    conv => whnf
    refine if_intro (fun h13 => ?_) (fun h13 => ?_)
    · conv => whnf
      rw [wrap_id (n := (foundN (c.gates.take i) : Int) + 1) (by omega) (by omega)]
      refine ⟨(i + 1, Hi), ⟨by dsimp only; omega, hsi⟩, by dsimp only; omega, ?_⟩
      refine ⟨rfl, rfl, ?_⟩
      dsimp only
      rw [foundN_snoc hii, show isM c.gates[i] = true by unfold isM; rw [h13] <;> rfl, if_pos rfl]
      conv => whnf
      repeat (refine ⟨rfl, ?_⟩; conv => whnf)
      refine ⟨by show En.v (.int .i64 (IntKind.i64.wrap (i + 1))) = _; rw [wrap_id (by omega) (by omega)] <;> rfl, ?_⟩
      conv => whnf
      repeat (refine ⟨rfl, ?_⟩; conv => whnf)
      exact trivial
    conv => whnf
    refine dec_intro (by omega) ?_
    conv => whnf
    refine ⟨_, hb0, ?_⟩
    conv => whnf
    refine if_intro (fun h14 => ?_) (fun h14 => ?_)
    · conv => whnf
      rw [wrap_id (n := (foundN (c.gates.take i) : Int) + 1) (by omega) (by omega)]
      refine ⟨(i + 1, Hi), ⟨by dsimp only; omega, hsi⟩, by dsimp only; omega, ?_⟩
      refine ⟨rfl, rfl, ?_⟩
      dsimp only
      rw [foundN_snoc hii, show isM c.gates[i] = true by unfold isM; rw [h14, Bool.or_true], if_pos rfl]
      conv => whnf
      repeat (refine ⟨rfl, ?_⟩; conv => whnf)
      refine ⟨by show En.v (.int .i64 (IntKind.i64.wrap (i + 1))) = _; rw [wrap_id (by omega) (by omega)] <;> rfl, ?_⟩
      conv => whnf
      repeat (refine ⟨rfl, ?_⟩; conv => whnf)
      exact trivial
    conv => whnf
    refine ⟨(i + 1, Hi), ⟨by dsimp only; omega, hsi⟩, by dsimp only; omega, ?_⟩
    refine ⟨rfl, rfl, ?_⟩
    dsimp only
    rw [foundN_snoc hii, show isM c.gates[i] = false by unfold isM; rw [h13, h14] <;> rfl, if_neg (by simp), Nat.add_zero]
    conv => whnf
    repeat (refine ⟨rfl, ?_⟩; conv => whnf)
    refine ⟨by show En.v (.int .i64 (IntKind.i64.wrap (i + 1))) = _; rw [wrap_id (by omega) (by omega)] <;> rfl, ?_⟩
    conv => whnf
    repeat (refine ⟨rfl, ?_⟩; conv => whnf)
    exact trivial
  have hii : i = c.gates.length := by
    have := of_decide_eq_false hci
    omega
  subst hii
  conv => whnf
  rw [List.take_length]
theorem d54 (c : Ct) (v : Vec) (hc : c.fit) (hv : v.length < 9223372036854775808) (H : PH) (x y : Value) (hx : CircH H x c) (hy : NumH H y v) : Cl Tryz.prog 54 [x, y] H emp fun r _ _ => r = .int .i64 (beginErr c v) := by
  obtain ⟨gb, gc, rfl, hg⟩ := hx.sl
  obtain ⟨yb, yc, rfl, _⟩ := id hy
  refine Cl_of (pol := polL) Γok Tryz.func54 (by kernel_rfl) rfl ?_
  conv => whnf
  intro b2
  conv => whnf
  refine (d84 c hc _ _ ⟨_, rfl, hg⟩).val fun Ha sa => ?_
  conv => whnf
  refine if_intro (fun h1 => ?_) (fun h1 => ?_)
  · conv => whnf
    rw [show beginErr c v = circErr c from if_pos (by simpa using h1)]
  have h1 : ¬ circErr c ≠ 0 := by simpa using h1
  conv => whnf
  refine (d49 v hv _ _ (NumH.up hy sa)).val fun Hb sb => ?_
  conv => whnf
  refine if_intro (fun h2 => ?_) (fun h2 => ?_)
  · conv => whnf
    rw [show beginErr c v = stErr v by unfold beginErr; rw [if_neg h1, if_pos (by simpa using h2)]]
  have h2 : ¬ stErr v ≠ 0 := by simpa using h2
  conv => whnf
  refine W_draw (pol := polL) Γok mixes [(0, .pendO), (1, .pendO), (3, .pend), (4, .pend), (2, .lock), (5, .pendO)] 26 (by kernel_rfl) rfl ?_
  conv => whnf
  refine (d72 v.length _).val fun Hc sc => ?_
  conv => whnf
  refine if_intro (fun h3 => ?_) (fun h3 => ?_)
  · conv => whnf
    rw [show beginErr c v = 7 by unfold beginErr; rw [if_neg h1, if_neg h2, if_pos (by simpa using h3)]]
  have h3 : ¬ sizeI v.length ≠ c.wires := by simpa using h3
  conv => whnf
  refine (d57 c hc _ _ ⟨_, rfl, hg.up ((sa.trans sb).trans sc)⟩).val fun Hd sd => ?_
  conv => whnf
  refine if_intro (fun h4 => ?_) (fun h4 => ?_)
  · conv => whnf
    have := of_decide_eq_true h4
    rw [show beginErr c v = 2 by unfold beginErr; rw [if_neg h1, if_neg h2, if_neg h3, if_pos (by omega)]]
  conv => whnf
  have := of_decide_eq_false h4
  rw [show beginErr c v = 0 by unfold beginErr; rw [if_neg h1, if_neg h2, if_neg h3, if_neg (by omega)]]
def deadB (v : Vec) : Bool := v.all fun x => eqN (formR x.1 x.2) (P4.zero, 0)
theorem d59 (v : Vec) (hv : v.length < 9223372036854775808) (hr : ∀ x ∈ v, checkF x.1 x.2 = 0) (H : PH) (x : Value) (hx : NumH H x v) : Cl Tryz.prog 59 [x] H emp fun r _ _ => r = .bool (deadB v) := by
  obtain ⟨xb, xc, rfl, _⟩ := id hx
  refine Cl_of (pol := polL) Γok Tryz.func59 (by kernel_rfl) rfl ?_
  conv => whnf
  refine W_loop (pol := polL) Γok (Nat × PH) (fun i => i.1 ≤ v.length ∧ Sub H i.2 ∧ (v.take i.1).all (fun x => eqN (formR x.1 x.2) (P4.zero, 0)) = true) (fun i => v.length - i.1) (fun i => [(3, .v (.int .i64 i.1))]) (fun _ => []) (fun i => i.2) (fun _ => emp) ⟨(0, H), ⟨by simp, Sub.refl _, rfl⟩, rfl, rfl, ?_⟩ ?_
  · conv => whnf
    repeat (refine ⟨rfl, ?_⟩; conv => whnf)
    exact trivial
  rintro ⟨i, Hi⟩ ⟨h1i, hsi, hpi⟩
  dsimp only at h1i hsi hpi
  conv => whnf
  refine if_intro (fun hci => ?_) (fun hci => ?_)
  · have hii : i < v.length := by
      have := of_decide_eq_true hci
      omega
    conv => whnf
    obtain ⟨_, b, off, rfl, hrd⟩ := (NumH.up hx hsi).rd (O := emp) hii
    conv => whnf
    refine dec_intro (by omega) ?_
    conv => whnf
    refine ⟨_, hrd, ?_⟩
    conv => whnf
    have hk := right_in (hr v[i] (List.getElem_mem hii))
    refine (c72 v[i].1 v[i].2 (by omega) (by omega) _).val fun H1 s1 => ?_
    conv => whnf
    refine if_intro (fun h => ?_) (fun h => ?_)
    · conv => whnf
      have h' : eqN (formR v[i].1 v[i].2) (P4.zero, 0) = false := by
        have : (!eqN (formR v[i].1 v[i].2) (P4.zero, 0)) = true := h
        simpa using this
      rw [show deadB v = false from all_noG (l := v) (p := fun x : P4 × Int => eqN (formR x.1 x.2) (P4.zero, 0)) hii h']
    have h' : eqN (formR v[i].1 v[i].2) (P4.zero, 0) = true := by
      have : (!eqN (formR v[i].1 v[i].2) (P4.zero, 0)) = false := h
      simpa using this
    conv => whnf
    refine ⟨(i + 1, H1), ⟨by dsimp only; omega, hsi.trans s1, by rw [all_takeG hii, hpi, h'] <;> rfl⟩, by dsimp only; omega, ?_⟩
    refine ⟨rfl, rfl, ?_⟩
    conv => whnf
    repeat (refine ⟨rfl, ?_⟩; conv => whnf)
    refine ⟨by show En.v (.int .i64 (IntKind.i64.wrap (i + 1))) = _; rw [wrap_id (by omega) (by omega)] <;> rfl, ?_⟩
    conv => whnf
    repeat (refine ⟨rfl, ?_⟩; conv => whnf)
    exact trivial
  have hii : i = v.length := by
    have := of_decide_eq_false hci
    omega
  subst hii
  dsimp only
  conv => whnf
  rw [List.take_length] at hpi
  rw [show deadB v = true from hpi]
theorem d56 (v : Vec) (hv : v.length ≤ 100000) (hr : ∀ x ∈ v, checkF x.1 x.2 = 0) (H : PH) (x : Value) (hx : NumH H x v) : Cl Tryz.prog 56 [x] H emp fun r H' _ => NumH H' r (leastV v) := by
  obtain ⟨xb, xc, rfl, _⟩ := id hx
  refine Cl_of (pol := polL) Γok Tryz.func56 (by kernel_rfl) rfl ?_
  conv => whnf
  refine (c154' v _ _ hx hv (fun y hy => by have := right_in (hr y hy); omega)).use fun r Ha sa hr2 => ?_
  obtain ⟨_, hr2⟩ := hr2
  obtain ⟨rb, rc, rfl, _⟩ := id hr2
  conv => whnf
  have e : formsR v = leastV v := by
    unfold formsR leastV
    apply List.map_congr_left
    intro y hy
    rw [LeastF_eq (hr y hy)]
  rw [← e]
  exact hr2
end Go.Proofs.YtmhnalikebkhjaaGreatDoor


namespace Go.Proofs.YtmhnalikebkhjaaGreatDoor
open Go.Proofs.YtmhnalikebkhjaaGreatDoor.X Go.Proofs.YtmhnalikebkhjaaGreatDoor.X.PH
set_option maxRecDepth 100000

structure Br where
  outs : List Int
  bits : Int
  state : Vec
def bitB (bits k : Int) : Bool := andI (shrI bits k) 1 == 1
def setBR (bits k o : Int) : Int := IntKind.i64.wrap ((if bitB bits k = true then IntKind.i64.wrap (bits - shlI 1 k) else bits) + shlI o k)
def xGate (g : Gt) : Gt := ⟨1, g.ws, 0, 0⟩
def wire0 (g : Gt) : Nat := (g.ws.getD 0 0).toNat
def onB (g : Gt) (bits : Int) : Bool := (g.cond == 0) || bitB bits (g.cond - 1)
def nextB (b : Br) (g : Gt) (o : Int) : Br × Int :=
  if g.kind = 13 then (⟨b.outs ++ [o], setBR b.bits g.bit o, keptV b.state (wire0 g) o⟩, 0)
  else if g.kind = 14 then (if o = 1 then (⟨b.outs ++ [o], b.bits, (doneG (keptV b.state (wire0 g) o) (xGate g)).1⟩, (doneG (keptV b.state (wire0 g) o) (xGate g)).2) else (⟨b.outs ++ [o], b.bits, keptV b.state (wire0 g) o⟩, 0))
  else if onB g b.bits = true then (⟨b.outs, b.bits, (doneG b.state g).1⟩, (doneG b.state g).2) else (b, 0)
structure RGate (g : Gt) (n bits : Nat) : Prop where
  n6 : n ≤ 6
  b8 : bits ≤ 8
  k1 : 1 ≤ g.kind
  k2 : g.kind ≤ 14
  len : (g.ws.length : Int) = arityF g.kind
  inA : g.ws.all (inW n) = true
  tw : twiceF g.ws = false
  bit : g.kind = 13 → 0 ≤ g.bit ∧ g.bit < bits
  cond : 0 ≤ g.cond ∧ g.cond ≤ bits
  no : 13 ≤ g.kind → g.cond = 0
theorem rgate_of {g : Gt} {wires bits : Int} {n m : Nat} (hn : n ≤ 6) (hm : m ≤ 8) (hw : wires = n) (hb : bits = m) (h : gateErr g wires bits = 0) : RGate g n m := by
  subst hw hb
  unfold gateErr at h
  by_cases h1 : arityF g.kind = 0
  · rw [if_pos h1] at h; cases h
  rw [if_neg h1] at h
  by_cases h2 : (g.ws.length : Int) ≠ arityF g.kind
  · rw [if_pos h2] at h; cases h
  rw [if_neg h2] at h
  by_cases h3 : g.ws.all (inW n) = false
  · rw [if_pos h3] at h; cases h
  rw [if_neg h3] at h
  by_cases h4 : twiceF g.ws = true
  · rw [if_pos h4] at h; cases h
  rw [if_neg h4] at h
  by_cases h5 : (offF g.cond 0 m || (g.kind == 13 && offF g.bit 0 (m - 1))) = true
  · rw [if_pos h5] at h; cases h
  rw [if_neg h5] at h
  by_cases h6 : ((decide (g.kind ≥ 13) && g.cond != 0) || (g.kind != 13 && g.bit != 0)) = true
  · rw [if_pos h6] at h; cases h
  have hk := kind_le h1
  unfold offF at h5
  simp at h5 h6
  refine ⟨hn, hm, hk.1, hk.2, by simpa using h2, by simpa using h3, by simpa using h4, fun h => ?_, by omega, fun h => h6.1 h⟩
  have := h5.2 h
  omega
theorem RGate.plain {g : Gt} {n bits : Nat} (h : RGate g n bits) (h1 : g.kind ≠ 13) (h2 : g.kind ≠ 14) : GateOK g n := ⟨h.n6, h.k1, by have := h.k2; omega, h.len, h.inA, h.tw⟩
theorem RGate.one {g : Gt} {n bits : Nat} (h : RGate g n bits) (hk : g.kind = 13 ∨ g.kind = 14) : g.ws.length = 1 ∧ wire0 g < n ∧ (∀ hi : 0 < g.ws.length, g.ws[0] = (wire0 g : Int)) ∧ GateOK (xGate g) n := by
  have ha : arityF g.kind = 1 := by rcases hk with e | e <;> rw [e] <;> rfl
  have hl : g.ws.length = 1 := by have := h.len; rw [ha] at this; omega
  have h0 := List.all_eq_true.1 h.inA g.ws[0] (List.getElem_mem (by omega))
  unfold inW at h0
  simp at h0
  have e : g.ws.getD 0 0 = g.ws[0] := by rw [List.getD_eq_getElem?_getD, List.getElem?_eq_getElem (by omega)] <;> rfl
  refine ⟨hl, by unfold wire0; rw [e]; omega, fun _ => by unfold wire0; rw [e]; omega, ⟨h.n6, show (1 : Int) ≤ 1 by decide, show (1 : Int) ≤ 12 by decide, ?_, h.inA, h.tw⟩⟩
  show (g.ws.length : Int) = arityF 1
  rw [hl]
  rfl
theorem kept_good {v : Vec} (hr : ∀ x ∈ v, checkF x.1 x.2 = 0) (w : Nat) (o : Int) : ∀ x ∈ keptV v w o, IsL x := by
  intro y hy
  obtain ⟨i, hi, rfl⟩ := List.mem_map.1 hy
  have hi := List.mem_range.1 hi
  unfold kept1
  split
  · have ev : vAt v i = v[i] := by simp [vAt, List.getD_eq_getElem?_getD, hi]
    rw [ev, LeastF_eq (hr _ (List.getElem_mem hi))]
    exact form_L (hr _ (List.getElem_mem hi))
  · exact zero_L
theorem IntsO.start (H : PH) (l : List Int) (hlen : l.length ≤ 100000) {O : PH} {b : Nat} {s : Value} (hO : O b = some (.cells ⟨[]⟩ 3 (0, 0))) (hs : IntsC H s l) {by_ : Nat} (hby : by_ ≤ 100) {z : List Value} (hz : z.length = 1) {K : Value → PH → Prop}
    (k : ∀ v O', IntsO O' v l → K v O') : appendK H O 3 1 by_ z (.slice (some ⟨b, 0, none⟩) 0 0) s K := by
  obtain ⟨base, cap, rfl, hc, hv'⟩ := hs
  obtain ⟨_, _, e, hv'⟩ := hv'
  cases e
  have hfl := flat_oneI l
  refine append_many (xs := []) (ys := l.map fun x => [.int .i64 x]) ⟨by simp, .inr ⟨b, 0, [], rfl, by rw [hO] <;> rfl, Nat.le_refl _, by simp⟩⟩ hz (fun y hy => ?_) ?_ ⟨base, cap, by simp, fun hb => ?_, fun a ha hpos => ?_⟩ ?_ fun v O2 hO2 hfr => ?_
  · obtain ⟨x, _, rfl⟩ := List.mem_map.1 hy
    rfl
  · rw [hfl]
    intro v hv
    obtain ⟨x, _, rfl⟩ := List.mem_map.1 hv
    rfl
  · rcases hv' with ⟨h', _⟩ | ⟨_, _, _, _, _, h', _⟩
    · have : l = [] := by simpa using h'
      rw [this] <;> rfl
    · rw [hb] at h'; cases h'
  · rcases hv' with ⟨h', _⟩ | ⟨b1, off1, c, t, fr, h1, h2, h3⟩
    · simp at hpos; omega
    · rw [ha] at h1; cases h1
      refine ⟨rfl, by rw [hfl]; simp, c, t, fr, .inl h2, ?_⟩
      rw [hfl]
      simpa using h3
  · simp
    refine Nat.le_trans (Nat.mul_le_mul hlen (Nat.add_le_add_right hby 1)) (by decide)
  · rw [List.nil_append] at hO2
    exact k v O2 hO2
def BrH (H : PH) (v : Value) (b : Br) : Prop := ∃ ov sv, v = .agg ⟨[ov, .int .i64 b.bits, sv]⟩ ∧ IntsC H ov b.outs ∧ NumH H sv b.state
theorem BrH.up {H H' : PH} {v : Value} {b : Br} (h : BrH H v b) (hs : Sub H H') : BrH H' v b := by
  obtain ⟨ov, sv, e, h1, h2⟩ := h
  exact ⟨ov, sv, e, h1.up hs, NumH.up h2 hs⟩
def BrO (H M : PH) (r : Value) (x : Br × Int) : Prop := ∃ ov sv, r = .tuple #[.agg ⟨[ov, .int .i64 x.1.bits, sv]⟩, .int .i64 x.2] ∧ IntsO M ov x.1.outs ∧ NumH H sv x.1.state
set_option maxHeartbeats 4000000 in
theorem d58o (b : Br) (g : Gt) (o : Int) (n bits : Nat) (hg : RGate g n bits) (ho : o = 0 ∨ o = 1) (hl : b.state.length = 2 ^ n) (hr : ∀ x ∈ b.state, checkF x.1 x.2 = 0) (hout : b.outs.length ≤ 1000) (H : PH) (x w : Value) (hx : BrH H x b) (hw : IntsC H w g.ws) :
    Cl Tryz.prog 58 [x, gv g w, .int .i64 o] H emp fun r H' M' => BrO H' M' r (nextB b g o) := by
  obtain ⟨ov, sv, rfl, hov, hsv⟩ := hx
  obtain ⟨ovb, ovc, rfl, hovc, hovh⟩ := id hov
  obtain ⟨svb, svc, rfl, _⟩ := id hsv
  obtain ⟨wb, wc, rfl, hwc, hwh⟩ := id hw
  obtain ⟨p1, p2⟩ := pow6 hg.n6
  have hn6 := hg.n6
  have hb8 := hg.b8
  refine Cl_of (pol := (fun | 3 => .imm | 10 => .own | 35 => .imm | 76 => .imm | _ => .loc)) Γok Tryz.func58 (by kernel_rfl) rfl ?_
  conv => whnf
  intro b3 hb3 hO3
  have s3 := sub_ins H (.cells ⟨[.slice ovb b.outs.length ovc, .int .i64 b.bits, .slice svb b.state.length svc]⟩ 39 (0, 0)) hb3
  replace hov := hov.up s3
  replace hsv := NumH.up hsv s3
  replace hw := hw.up s3
  replace hwh := IntsH.up hwh s3
  conv => whnf
  intro b4
  conv => whnf
  intro b6
  conv => whnf
  refine W_draw (pol := (fun | 3 => .imm | 10 => .own | 35 => .imm | 76 => .imm | _ => .loc)) Γok mixes [(1, .pendO), (2, .pendO), (4, .pendH), (5, .pendH), (6, .pendH), (7, .pendH), (0, .lock), (3, .lock), (8, .pendO), (9, .late), (10, .lock)] 115 (by kernel_rfl) rfl ?_
  conv => whnf
  intro b10 hb10 hO10
  conv => whnf
  refine IntsO.start _ b.outs (by omega) (ins_same _ _ _) hov (by decide) rfl fun ov1 O1 hovo => ?_
  obtain ⟨ov1b, ov1n, ov1c, rfl⟩ := OwnS.sl hovo
  conv => whnf
  intro b8
  conv => whnf
  refine if_intro (fun h13 => ?_) (fun h13 => ?_)
  · have hk : g.kind = 13 := by simpa using h13
    obtain ⟨w1, w2, w3, w4⟩ := hg.one (.inl hk)
    obtain ⟨bit0, bit1⟩ := hg.bit hk
    obtain ⟨bb, off, rfl, hrd⟩ := hwh.rd (i := 0) (by omega)
    rw [w3 (by omega)] at hrd
    have en : nextB b g o = (⟨b.outs ++ [o], setBR b.bits g.bit o, keptV b.state (wire0 g) o⟩, 0) := if_pos hk
    rw [en]
    conv => whnf
    refine W_draw (pol := (fun | 3 => .imm | 10 => .own | 35 => .imm | 76 => .imm | _ => .loc)) Γok mixes [(0, .pendO), (1, .pendO), (2, .pendO), (3, .pendO), (4, .pendO), (5, .pendO), (6, .pendO), (7, .lock), (8, .pendO), (9, .lock)] 115 (by kernel_rfl) rfl ?_
    conv => whnf
    refine dec_intro (by omega) ?_
    conv => whnf
    refine ⟨_, hrd O1, ?_⟩
    conv => whnf
    refine ((d74o b.state (wire0 g) o (by omega) hr (by omega) _ _ hsv).repart (Q' := fun r H' _ => NumH H' r (keptV b.state (wire0 g) o)) fun _ _ _ _ hd h => NumO.pub hd h).use fun u Ha sa hu => ?_
    obtain ⟨_, hu⟩ := hu
    obtain ⟨ub, uc, rfl, _⟩ := id hu
    conv => whnf
    intro b7 hb7 hO7
    conv => whnf
    have s7 := sub_ins Ha (.cells ⟨[.int .i64 o]⟩ 3 (0, 0)) hb7
    refine append_one (xs := b.outs.map fun x => [Value.int .i64 x]) (y := [.int .i64 o]) hovo rfl rfl (by intro v hv; simp at hv; subst hv; rfl) ⟨_, _, _, rfl, rfl, Rd.whole (ins_same _ _ _)⟩ ?_ fun ov2 O4 hO4 _ => ?_
    · simp
      omega
    have hO4' : IntsO O4 ov2 (b.outs ++ [o]) := by
      unfold IntsO
      rw [List.map_append]
      exact hO4
    obtain ⟨ov2b, ov2n, ov2c, rfl⟩ := OwnS.sl hO4'
    conv => whnf
    refine dec_intro (by omega) ?_
    conv => whnf
    refine if_intro (fun hbit => ?_) (fun hbit => ?_)
    · have hbit' : bitB b.bits g.bit = true := hbit
      conv => whnf
      refine W_draw (pol := (fun | 3 => .imm | 10 => .own | 35 => .imm | 76 => .imm | _ => .loc)) Γok mixes [(0, .pendO), (1, .pendO), (2, .pendO), (3, .pendO), (4, .pendO), (5, .pendO), (6, .pendO), (7, .lock)] 115 (by kernel_rfl) rfl ?_
      conv => whnf
      refine dec_intro (by omega) ?_
      conv => whnf
      refine W_draw (pol := (fun | 3 => .imm | 10 => .own | 35 => .imm | 76 => .imm | _ => .loc)) Γok mixes [(0, .pendO), (1, .pendO), (2, .pendO), (3, .pendO), (4, .pendO), (5, .pendO), (6, .pendO), (7, .pendO), (8, .lock)] 115 (by kernel_rfl) rfl ?_
      conv => whnf
      refine dec_intro (by omega) ?_
      conv => whnf
      refine ⟨_, _, ?_, hO4', NumH.up hu s7⟩
      unfold setBR
      rw [if_pos hbit']
      rfl
    · have hbit' : ¬ bitB b.bits g.bit = true := by
        have : bitB b.bits g.bit = false := hbit
        rw [this]
        simp
      conv => whnf
      refine W_draw (pol := (fun | 3 => .imm | 10 => .own | 35 => .imm | 76 => .imm | _ => .loc)) Γok mixes [(0, .pendO), (1, .pendO), (2, .pendO), (3, .pendO), (4, .pendO), (5, .pendO), (6, .pendO), (7, .pendO), (8, .lock)] 115 (by kernel_rfl) rfl ?_
      conv => whnf
      refine dec_intro (by omega) ?_
      conv => whnf
      refine ⟨_, _, ?_, hO4', NumH.up hu s7⟩
      unfold setBR
      rw [if_neg hbit']
      rfl
  have hk13 : g.kind ≠ 13 := by simpa using h13
  conv => whnf
  refine if_intro (fun h14 => ?_) (fun h14 => ?_)
  · have hk : g.kind = 14 := by simpa using h14
    obtain ⟨w1, w2, w3, w4⟩ := hg.one (.inr hk)
    obtain ⟨bb, off, rfl, hrd⟩ := hwh.rd (i := 0) (by omega)
    rw [w3 (by omega)] at hrd
    have en : nextB b g o = if o = 1 then (⟨b.outs ++ [o], b.bits, (doneG (keptV b.state (wire0 g) o) (xGate g)).1⟩, (doneG (keptV b.state (wire0 g) o) (xGate g)).2) else (⟨b.outs ++ [o], b.bits, keptV b.state (wire0 g) o⟩, 0) := by
      unfold nextB
      rw [if_neg hk13, if_pos hk]
    rw [en]
    conv => whnf
    refine W_draw (pol := (fun | 3 => .imm | 10 => .own | 35 => .imm | 76 => .imm | _ => .loc)) Γok mixes [(0, .pendO), (1, .pendO), (2, .pendO), (3, .pendO), (4, .pendO), (5, .pendO), (6, .pendO), (7, .lock), (8, .pendO), (9, .lock)] 115 (by kernel_rfl) rfl ?_
    conv => whnf
    refine dec_intro (by omega) ?_
    conv => whnf
    refine ⟨_, hrd O1, ?_⟩
    conv => whnf
    refine ((d74o b.state (wire0 g) o (by omega) hr (by omega) _ _ hsv).repart (Q' := fun r H' _ => NumH H' r (keptV b.state (wire0 g) o)) fun _ _ _ _ hd h => NumO.pub hd h).use fun u Ha sa hu => ?_
    obtain ⟨_, hu⟩ := hu
    obtain ⟨ub, uc, rfl, _⟩ := id hu
    conv => whnf
    intro b7 hb7 hO7
    conv => whnf
    have s7 := sub_ins Ha (.cells ⟨[.int .i64 o]⟩ 3 (0, 0)) hb7
    refine append_one (xs := b.outs.map fun x => [Value.int .i64 x]) (y := [.int .i64 o]) hovo rfl rfl (by intro v hv; simp at hv; subst hv; rfl) ⟨_, _, _, rfl, rfl, Rd.whole (ins_same _ _ _)⟩ ?_ fun ov2 O4 hO4 _ => ?_
    · simp
      omega
    have hO4' : IntsO O4 ov2 (b.outs ++ [o]) := by
      unfold IntsO
      rw [List.map_append]
      exact hO4
    obtain ⟨ov2b, ov2n, ov2c, rfl⟩ := OwnS.sl hO4'
    conv => whnf
    refine if_intro (fun ho1 => ?_) (fun ho1 => ?_)
    · have ho1 : o = 1 := by simpa using ho1
      rw [if_pos ho1]
      conv => whnf
      refine (d73 (keptV b.state (wire0 g) o) (xGate g) n w4 (by rw [kept_len]; exact hl) _ _ _ (NumH.up hu s7) (hw.up (sa.trans s7))).use fun r Hb sb hr2 => ?_
      obtain ⟨_, u2, rfl, hu2⟩ := hr2
      obtain ⟨u2b, u2c, rfl, _⟩ := id hu2
      conv => whnf
      exact ⟨_, _, rfl, hO4', hu2⟩
    · have ho1 : ¬ o = 1 := by simpa using ho1
      rw [if_neg ho1]
      conv => whnf
      exact ⟨_, _, rfl, hO4', NumH.up hu s7⟩
  have hk14 : g.kind ≠ 14 := by simpa using h14
  have hgk := hg.plain hk13 hk14
  have en : nextB b g o = if onB g b.bits = true then (⟨b.outs, b.bits, (doneG b.state g).1⟩, (doneG b.state g).2) else (b, 0) := by
    unfold nextB
    rw [if_neg hk13, if_neg hk14]
  rw [en]
  obtain ⟨c0, c1⟩ := hg.cond
  conv => whnf
  refine if_intro (fun hc0 => ?_) (fun hc0 => ?_)
  · rw [if_pos (by unfold onB; rw [hc0] <;> rfl)]
    conv => whnf
    refine (d73 b.state g n hgk hl _ _ _ hsv hw).use fun r Hb sb hr2 => ?_
    obtain ⟨_, u2, rfl, hu2⟩ := hr2
    obtain ⟨u2b, u2c, rfl, _⟩ := id hu2
    conv => whnf
    exact ⟨_, _, rfl, hovo, hu2⟩
  have hcn : g.cond ≠ 0 := by simpa using hc0
  conv => whnf
  rw [wrap_id (n := g.cond - 1) (by omega) (by omega)]
  refine dec_intro (by omega) ?_
  conv => whnf
  refine if_intro (fun hb => ?_) (fun hb => ?_)
  · have hb' : bitB b.bits (g.cond - 1) = true := hb
    rw [if_pos (by unfold onB; rw [hc0, hb'] <;> rfl)]
    conv => whnf
    refine (d73 b.state g n hgk hl _ _ _ hsv hw).use fun r Hb sb hr2 => ?_
    obtain ⟨_, u2, rfl, hu2⟩ := hr2
    obtain ⟨u2b, u2c, rfl, _⟩ := id hu2
    conv => whnf
    exact ⟨_, _, rfl, hovo, hu2⟩
  · have hb' : bitB b.bits (g.cond - 1) = false := hb
    rw [if_neg (by unfold onB; rw [hc0, hb']; simp)]
    conv => whnf
    exact ⟨_, _, rfl, hovo, hsv⟩
def OutB (H : PH) (r : Value) (x : Br × Int) : Prop := ∃ u, r = .tuple #[u, .int .i64 x.2] ∧ BrH H u x.1
theorem d58 (b : Br) (g : Gt) (o : Int) (n bits : Nat) (hg : RGate g n bits) (ho : o = 0 ∨ o = 1) (hl : b.state.length = 2 ^ n) (hr : ∀ x ∈ b.state, checkF x.1 x.2 = 0) (hout : b.outs.length ≤ 1000) (H : PH) (x w : Value) (hx : BrH H x b) (hw : IntsC H w g.ws) :
    Cl Tryz.prog 58 [x, gv g w, .int .i64 o] H emp fun r H' _ => OutB H' r (nextB b g o) :=
  (d58o b g o n bits hg ho hl hr hout H x w hx hw).repart fun _ _ _ _ hd h => by
    obtain ⟨ov, sv, e, h1, h2⟩ := h
    obtain ⟨H', M', rp, h3⟩ := IntsO.pubC hd h1
    exact ⟨H', M', rp, _, e, ov, sv, rfl, h3, NumH.up h2 rp.sub⟩
end Go.Proofs.YtmhnalikebkhjaaGreatDoor


namespace Go.Proofs.YtmhnalikebkhjaaGreatDoor
open Go.Proofs.YtmhnalikebkhjaaGreatDoor.X Go.Proofs.YtmhnalikebkhjaaGreatDoor.X.PH
set_option maxRecDepth 100000

def subR (run : Br → List Br × Int) (b : Br) (g : Gt) (o : Int) : List Br × Int := if (nextB b g o).2 ≠ 0 then ([], (nextB b g o).2) else if deadB (nextB b g o).1.state = true then ([], 0) else run (nextB b g o).1
def runB : List Gt → Br → List Br × Int
  | [], b => if deadB b.state = true then ([], 0) else ([b], 0)
  | g :: gs, b =>
    if isM g = false then (if (nextB b g 0).2 ≠ 0 then ([], (nextB b g 0).2) else runB gs (nextB b g 0).1)
    else if (subR (runB gs) b g 0).2 ≠ 0 then ([], (subR (runB gs) b g 0).2) else if (subR (runB gs) b g 1).2 ≠ 0 then ([], (subR (runB gs) b g 1).2) else ((subR (runB gs) b g 0).1 ++ (subR (runB gs) b g 1).1, 0)
theorem runB_step {gs : List Gt} {i : Nat} (hi : i < gs.length) (b : Br) : runB (gs.drop i) b =
    if isM gs[i] = false then (if (nextB b gs[i] 0).2 ≠ 0 then ([], (nextB b gs[i] 0).2) else runB (gs.drop (i + 1)) (nextB b gs[i] 0).1)
    else if (subR (runB (gs.drop (i + 1))) b gs[i] 0).2 ≠ 0 then ([], (subR (runB (gs.drop (i + 1))) b gs[i] 0).2) else if (subR (runB (gs.drop (i + 1))) b gs[i] 1).2 ≠ 0 then ([], (subR (runB (gs.drop (i + 1))) b gs[i] 1).2) else ((subR (runB (gs.drop (i + 1))) b gs[i] 0).1 ++ (subR (runB (gs.drop (i + 1))) b gs[i] 1).1, 0) := by
  rw [List.drop_eq_getElem_cons hi]
  rfl
theorem foundN_cons (g : Gt) (gs : List Gt) : foundN (g :: gs) = (if isM g = true then 1 else 0) + foundN gs := by
  unfold foundN
  by_cases h : isM g = true
  · simp [h]; omega
  · simp [h]
theorem runB_len : ∀ (gs : List Gt) (b : Br), (runB gs b).1.length ≤ 2 ^ foundN gs
  | [], b => by
    unfold runB
    split <;> simp [foundN]
  | g :: gs, b => by
    have hs : ∀ o, (subR (runB gs) b g o).1.length ≤ 2 ^ foundN gs := fun o => by
      unfold subR
      split
      · simp
      split
      · simp
      · exact runB_len gs _
    have hp : 0 < 2 ^ foundN gs := Nat.pow_pos (by decide)
    rw [foundN_cons]
    unfold runB
    by_cases h : isM g = false
    · rw [if_pos h, show (if isM g = true then 1 else 0) + foundN gs = foundN gs from by rw [h]; simp]
      split
      · simp
      · exact runB_len gs _
    · have ht : isM g = true := by simpa using h
      rw [if_neg h, show (if isM g = true then 1 else 0) + foundN gs = foundN gs + 1 from by rw [ht]; simp; omega, Nat.pow_succ]
      have h0 := hs 0
      have h1 := hs 1
      split
      · simp
      split
      · simp
      · rw [List.length_append]
        omega
theorem foundN_drop (gs : List Gt) (i : Nat) : foundN (gs.drop i) ≤ foundN gs := by
  unfold foundN
  have := (List.drop_sublist i gs).filter isM
  exact this.length_le
/-- A branch at work. -/
structure BrOK (b : Br) (n i : Nat) : Prop where
  len : b.state.length = 2 ^ n
  right : ∀ x ∈ b.state, IsL x
  outs : b.outs.length ≤ i
theorem BrOK.chk {b : Br} {n i : Nat} (h : BrOK b n i) : ∀ x ∈ b.state, checkF x.1 x.2 = 0 := fun x hx => (h.right x hx).ok
theorem done_good {v : Vec} {g : Gt} (h : (doneG v g).2 = 0) : ∀ x ∈ (doneG v g).1, IsL x := by
  unfold doneG rowsE at h ⊢
  split
  · rename_i he
    rw [if_pos he] at h
    exact absurd h he
  · rename_i he
    intro x hx
    obtain ⟨a, ha, rfl⟩ := List.mem_map.1 hx
    have h0 : firstErr ((List.range v.length).map fun a => (rowG v g a).2) = 0 := by simpa using he
    have := firstErr_zero h0 _ (List.mem_map.2 ⟨a, ha, rfl⟩)
    exact dotP_L _ this
theorem BrOK.next {b : Br} {n i : Nat} {g : Gt} {o : Int} (h : BrOK b n i) (he : (nextB b g o).2 = 0) : BrOK (nextB b g o).1 n (i + 1) := by
  unfold nextB at he ⊢
  have ho := h.outs
  split
  · exact ⟨by rw [kept_len]; exact h.len, kept_good h.chk _ _, by simp; omega⟩
  · rename_i h13
    rw [if_neg h13] at he
    split
    · rename_i h14
      rw [if_pos h14] at he
      split
      · rename_i h1
        rw [if_pos h1] at he
        exact ⟨by rw [doneG_len he, kept_len]; exact h.len, done_good he, by simp; omega⟩
      · exact ⟨by rw [kept_len]; exact h.len, kept_good h.chk _ _, by simp; omega⟩
    · rename_i h14
      rw [if_neg h14] at he
      split
      · rename_i h1
        rw [if_pos h1] at he
        exact ⟨by rw [doneG_len he]; exact h.len, done_good he, by dsimp only; omega⟩
      · exact ⟨h.len, h.right, Nat.le_succ_of_le ho⟩
def BrC (H : PH) (b : Br) (c : List Value) : Prop := ∃ ov sv, c = [ov, .int .i64 b.bits, sv] ∧ IntsC H ov b.outs ∧ NumH H sv b.state
theorem BrC.up {H H' : PH} {b : Br} {c : List Value} (h : BrC H b c) (hs : Sub H H') : BrC H' b c := by
  obtain ⟨ov, sv, e, h1, h2⟩ := h
  exact ⟨ov, sv, e, h1.up hs, NumH.up h2 hs⟩
def BrsC (H : PH) (bs : List Br) (cs : List (List Value)) : Prop := cs.length = bs.length ∧ ∀ (i : Nat) b c, bs[i]? = some b → cs[i]? = some c → BrC H b c
theorem BrsC.up {H H' : PH} {bs : List Br} {cs : List (List Value)} (h : BrsC H bs cs) (hs : Sub H H') : BrsC H' bs cs := ⟨h.1, fun i b c h1 h2 => (h.2 i b c h1 h2).up hs⟩
theorem BrsC.nil (H : PH) : BrsC H [] [] := ⟨rfl, fun i b c h => by simp at h⟩
theorem BrsC.one {H : PH} {b : Br} {c : List Value} (h : BrC H b c) : BrsC H [b] [c] := ⟨rfl, fun i b' c' h1 h2 => by
  cases i with
  | zero => cases h1; cases h2; exact h
  | succ i => simp at h1⟩
theorem BrsC.app {H : PH} {bs bs' : List Br} {cs cs' : List (List Value)} (h : BrsC H bs cs) (h' : BrsC H bs' cs') : BrsC H (bs ++ bs') (cs ++ cs') := by
  refine ⟨by simp [h.1, h'.1], fun i b c h1 h2 => ?_⟩
  by_cases hi : i < bs.length
  · rw [List.getElem?_append_left hi] at h1
    rw [List.getElem?_append_left (by rw [h.1]; exact hi)] at h2
    exact h.2 i b c h1 h2
  · rw [List.getElem?_append_right (by omega)] at h1
    rw [List.getElem?_append_right (by rw [h.1]; omega), h.1] at h2
    exact h'.2 _ b c h1 h2
def BrsH (H : PH) (v : Value) (bs : List Br) : Prop := ∃ cs, RecsH H 3 v cs ∧ BrsC H bs cs
theorem BrsH.up {H H' : PH} {v : Value} {bs : List Br} (h : BrsH H v bs) (hs : Sub H H') : BrsH H' v bs := by
  obtain ⟨cs, h1, h2⟩ := h
  exact ⟨cs, h1.up hs, h2.up hs⟩
theorem RecsH.src {H : PH} {sz : Nat} {base : Option Addr} {n cap : Nat} {cs : List (List Value)} (h : RecsH H sz (.slice base n cap) cs) : n = cs.length ∧ (base = none → cs = []) ∧ ∀ O a, base = some a → 0 < cs.length → Rd H O a (cs.length * sz) cs.flatten := by
  obtain ⟨h1, _, _, e, h2⟩ := h
  cases e
  have hl := flat_length h1
  rcases h2 with ⟨h2, _⟩ | ⟨b, off, c, t, fr, rfl, h3, h4⟩
  · exact ⟨rfl, fun _ => List.length_eq_zero_iff.1 h2, fun O a ha hp => by omega⟩
  · refine ⟨rfl, fun h => (by cases h), fun O a ha hp => ?_⟩
    cases ha
    rw [hl] at h4
    exact ⟨rfl, hl, c, t, fr, .inl h3, h4⟩
def OutBs (H : PH) (r : Value) (x : List Br × Int) : Prop := ∃ u, r = .tuple #[u, .int .i64 x.2] ∧ BrsH H u x.1
def OutBsO (H M : PH) (t : TypeId) (r : Value) (x : List Br × Int) : Prop := ∃ u cs, r = .tuple #[u, .int .i64 x.2] ∧ OwnS M 3 t u cs ∧ BrsC H x.1 cs
theorem OutBsO.bad {H M : PH} {t : TypeId} {e : Int} : OutBsO H M t (.tuple #[.slice none 0 0, .int .i64 e]) ([], e) := ⟨_, [], rfl, ⟨by simp, .inl ⟨rfl, rfl⟩⟩, BrsC.nil H⟩
theorem Cl.outBs {f : FuncId} {args : List Value} {H : PH} {t : TypeId} {x : List Br × Int} (h : Cl Tryz.prog f args H emp fun r H' M' => OutBsO H' M' t r x) : Cl Tryz.prog f args H emp fun r H' _ => OutBs H' r x :=
  h.repart fun _ _ _ _ hd h => by
    obtain ⟨u, cs, e, h1, h2⟩ := h
    obtain ⟨H', M', rp, h3⟩ := OwnS.recs hd h1
    exact ⟨H', M', rp, u, e, cs, h3, h2.up rp.sub⟩
set_option maxHeartbeats 8000000 in
theorem d55o (c : Ct) (n bits : Nat) (hlen : c.gates.length ≤ 120) (hfew : foundN c.gates ≤ 8) (hgs : ∀ g ∈ c.gates, RGate g n bits) (hn : n ≤ 6) : ∀ (m i : Nat), i + m = c.gates.length → ∀ (b : Br), BrOK b n i → ∀ (H : PH) (x y : Value), CircH H x c → BrH H y b →
    Cl Tryz.prog 55 [x, y, .int .i64 i] H emp fun r H' M' => OutBsO H' M' 39 r (runB (c.gates.drop i) b) := by
  intro m
  induction m using Nat.strongRecOn with
  | ind m ih =>
  intro i him b hb H x y hcc hy
  obtain ⟨gb, gc, rfl, hg⟩ := CircH.sl hcc
  obtain ⟨ov0, sv0, rfl, hov, hsv⟩ := hy
  obtain ⟨ovb, ovc, rfl, hovc, hovh⟩ := id hov
  obtain ⟨svb, svc, rfl, _⟩ := id hsv
  obtain ⟨p1, p2⟩ := pow6 hn
  refine Cl_of (pol := (fun | 84 => .own | _ => .loc)) Γok Tryz.func55 (by kernel_rfl) rfl ?_
  conv => whnf
  intro b3
  conv => whnf
  intro b4
  conv => whnf
  refine W_loop (pol := (fun | 84 => .own | _ => .loc)) Γok (Nat × PH × Br × Value × Value) (fun z => i ≤ z.1 ∧ z.1 ≤ c.gates.length ∧ Sub H z.2.1 ∧ BrOK z.2.2.1 n z.1 ∧ IntsC z.2.1 z.2.2.2.1 z.2.2.1.outs ∧ NumH z.2.1 z.2.2.2.2 z.2.2.1.state ∧ runB (c.gates.drop i) b = runB (c.gates.drop z.1) z.2.2.1) (fun z => c.gates.length - z.1) (fun z => [(8, .v (.int .i64 z.1))]) (fun z => [(1, [z.2.2.2.1, .int .i64 z.2.2.1.bits, z.2.2.2.2])]) (fun z => z.2.1) (fun _ => emp) ⟨(i, H, b, .slice ovb b.outs.length ovc, .slice svb b.state.length svc), ⟨Nat.le_refl _, by dsimp only; omega, Sub.refl _, hb, hov, hsv, rfl⟩, rfl, rfl, ?_⟩ ?_
  · conv => whnf
    repeat (refine ⟨rfl, ?_⟩; conv => whnf)
    exact trivial
  rintro ⟨j, Hj, bj, ov, sv⟩ ⟨h1, h2, hsj, hbj, hovj, hsvj, hrun⟩
  dsimp only at h1 h2 hsj hbj hovj hsvj hrun
  obtain ⟨ovb, ovc, rfl, hovjc, _⟩ := id hovj
  obtain ⟨svb, svc, rfl, _⟩ := id hsvj
  conv => whnf
  refine if_intro (fun hcj => ?_) (fun hcj => ?_)
  · have hij : j < c.gates.length := by
      have := of_decide_eq_true hcj
      omega
    have hout := hbj.outs
    have hgj := hgs _ (List.getElem_mem hij)
    rw [runB_step hij] at hrun
    obtain ⟨gbb, goff, w, wb, wc, rfl, hw, hrd, hwe⟩ := hg.rd hij
    subst hw
    conv => whnf
    refine dec_intro (by omega) ?_
    conv => whnf
    refine ⟨_, hrd Hj emp hsj, ?_⟩
    conv => whnf
    intro b9
    conv => whnf
    have hbH : BrH Hj (.agg ⟨[.slice ovb bj.outs.length ovc, .int .i64 bj.bits, .slice svb bj.state.length svc]⟩) bj := ⟨_, _, rfl, hovj, hsvj⟩
    refine if_intro (fun h13 => ?_) (fun h13 => ?_)
    · conv => whnf
      refine if_intro (fun h14 => ?_) (fun h14 => ?_)
      · have hM : isM c.gates[j] = false := by
          unfold isM
          have e1 : (c.gates[j].kind == 13) = false := by simpa using h13
          have e2 : (c.gates[j].kind == 14) = false := by simpa using h14
          rw [e1, e2]
          rfl
        rw [if_pos hM] at hrun
        conv => whnf
        refine (d58 bj c.gates[j] 0 n bits hgj (.inl rfl) hbj.len hbj.chk (by omega) _ _ _ hbH (hwe.up hsj)).use fun r Ha sa hr => ?_
        obtain ⟨_, u, rfl, ov2, sv2, rfl, hov2, hsv2⟩ := hr
        obtain ⟨ov2b, ov2c, rfl, hov2c, _⟩ := id hov2
        obtain ⟨sv2b, sv2c, rfl, _⟩ := id hsv2
        conv => whnf
        intro b10
        conv => whnf
        refine if_intro (fun he => ?_) (fun he => ?_)
        · have he : (nextB bj c.gates[j] 0).2 ≠ 0 := by simpa using he
          rw [if_pos he] at hrun
          conv => whnf
          rw [hrun]
          exact OutBsO.bad
        have he : (nextB bj c.gates[j] 0).2 = 0 := by simpa using he
        rw [if_neg (by simpa using he)] at hrun
        conv => whnf
        refine ⟨(j + 1, Ha, (nextB bj c.gates[j] 0).1, .slice ov2b (nextB bj c.gates[j] 0).1.outs.length ov2c, .slice sv2b (nextB bj c.gates[j] 0).1.state.length sv2c), ⟨by dsimp only; omega, by dsimp only; omega, hsj.trans sa, hbj.next he, hov2, hsv2, hrun⟩, by dsimp only; omega, ?_⟩
        refine ⟨rfl, rfl, ?_⟩
        conv => whnf
        repeat (refine ⟨rfl, ?_⟩; conv => whnf)
        refine ⟨by show En.v (.int .i64 (IntKind.i64.wrap (j + 1))) = _; rw [wrap_id (by omega) (by omega)] <;> rfl, ?_⟩
        conv => whnf
        repeat (refine ⟨rfl, ?_⟩; conv => whnf)
        exact trivial
      · have hM : isM c.gates[j] = true := by
          unfold isM
          have e2 : (c.gates[j].kind == 14) = true := by simpa using h14
          rw [e2, Bool.or_true]
        rw [if_neg (by rw [hM]; simp)] at hrun
        conv => whnf
        refine W_loop (pol := (fun | 84 => .own | _ => .loc)) Γok (Nat × PH × Value × PH × List (List Value) × List Br) (fun z => z.1 ≤ 2 ∧ Sub Hj z.2.1 ∧ OwnS z.2.2.2.1 3 39 z.2.2.1 z.2.2.2.2.1 ∧ BrsC z.2.1 z.2.2.2.2.2 z.2.2.2.2.1 ∧ ((z.1 = 0 ∧ z.2.2.2.2.2 = []) ∨ (z.1 = 1 ∧ (subR (runB (c.gates.drop (j + 1))) bj c.gates[j] 0).2 = 0 ∧ z.2.2.2.2.2 = (subR (runB (c.gates.drop (j + 1))) bj c.gates[j] 0).1) ∨ (z.1 = 2 ∧ runB (c.gates.drop i) b = (z.2.2.2.2.2, 0)))) (fun z => 2 - z.1) (fun z => [(12, .v z.2.2.1), (13, .v (.int .i64 z.1))]) (fun _ => []) (fun z => z.2.1) (fun z => z.2.2.2.1) ⟨(0, Hj, .slice none 0 0, emp, [], []), ⟨by simp, Sub.refl _, ⟨by simp, .inl ⟨rfl, rfl⟩⟩, BrsC.nil _, .inl ⟨rfl, rfl⟩⟩, rfl, rfl, ?_⟩ ?_
        · conv => whnf
          repeat (refine ⟨rfl, ?_⟩; conv => whnf)
          exact trivial
        rintro ⟨q, Hq, outv, Oq, cs, acc⟩ ⟨h1q, hsq, hoq, hcq, hst⟩
        dsimp only at h1q hsq hoq hcq hst
        obtain ⟨outb, outn, outc, rfl⟩ := OwnS.sl hoq
        conv => whnf
        refine if_intro (fun hcqq => ?_) (fun hcqq => ?_)
        · have hiq : q < 2 := by
            have := of_decide_eq_true hcqq
            omega
          -- what comes of this outcome
          have stop : ∀ e : Int, (subR (runB (c.gates.drop (j + 1))) bj c.gates[j] q).2 = e → e ≠ 0 → runB (c.gates.drop i) b = ([], e) := by
            intro e he hne
            rcases hst with ⟨h, _⟩ | ⟨h, h0, _⟩ | ⟨h, _⟩
            · subst h
              rw [hrun, if_pos (by rw [show ((0 : Nat) : Int) = 0 from rfl] at he; rw [he]; exact hne)]
              rw [show ((0 : Nat) : Int) = 0 from rfl] at he
              rw [he]
            · subst h
              rw [show ((1 : Nat) : Int) = 1 from rfl] at he
              rw [hrun, if_neg (by rw [h0]; simp), if_pos (by rw [he]; exact hne), he]
            · omega
          have goon : ∀ bs : List Br, subR (runB (c.gates.drop (j + 1))) bj c.gates[j] q = (bs, 0) → ((q + 1 = 0 ∧ acc ++ bs = []) ∨ (q + 1 = 1 ∧ (subR (runB (c.gates.drop (j + 1))) bj c.gates[j] 0).2 = 0 ∧ acc ++ bs = (subR (runB (c.gates.drop (j + 1))) bj c.gates[j] 0).1) ∨ (q + 1 = 2 ∧ runB (c.gates.drop i) b = (acc ++ bs, 0))) := by
            intro bs hbs
            rcases hst with ⟨h, h0⟩ | ⟨h, h0, h1⟩ | ⟨h, _⟩
            · subst h
              rw [show ((0 : Nat) : Int) = 0 from rfl] at hbs
              exact .inr (.inl ⟨rfl, by rw [hbs], by rw [h0, hbs] <;> rfl⟩)
            · subst h
              rw [show ((1 : Nat) : Int) = 1 from rfl] at hbs
              refine .inr (.inr ⟨rfl, ?_⟩)
              rw [hrun, if_neg (by rw [h0]; simp), hbs, if_neg (by simp), h1]
            · omega
          have acclen : acc.length ≤ 256 := by
            rcases hst with ⟨h, h0⟩ | ⟨h, h0, h1⟩ | ⟨h, _⟩
            · rw [h0]; simp
            · rw [h1]
              refine Nat.le_trans (?_ : _ ≤ 2 ^ foundN (c.gates.drop (j + 1))) (Nat.le_trans (Nat.pow_le_pow_right (by decide) (Nat.le_trans (foundN_drop _ _) hfew)) (by decide))
              unfold subR
              split
              · simp
              split
              · simp
              · exact runB_len _ _
            · omega
          conv => whnf
          refine (d58 bj c.gates[j] q n bits hgj (by omega) hbj.len hbj.chk (by omega) _ _ _ (hbH.up hsq) (hwe.up (hsj.trans hsq))).use fun r Ha sa hr => ?_
          obtain ⟨_, u, rfl, ov2, sv2, rfl, hov2, hsv2⟩ := hr
          obtain ⟨ov2b, ov2c, rfl, hov2c, _⟩ := id hov2
          obtain ⟨sv2b, sv2c, rfl, _⟩ := id hsv2
          conv => whnf
          intro b14
          conv => whnf
          refine if_intro (fun he => ?_) (fun he => ?_)
          · have he : (nextB bj c.gates[j] q).2 ≠ 0 := by simpa using he
            conv => whnf
            rw [stop _ (by unfold subR; rw [if_pos he]) he]
            exact OutBsO.bad
          have he : (nextB bj c.gates[j] q).2 = 0 := by simpa using he
          have hnx := hbj.next (g := c.gates[j]) (o := q) he
          conv => whnf
          refine (d59 (nextB bj c.gates[j] q).1.state (by have := hnx.len; omega) hnx.chk _ _ hsv2).val fun Hb sb => ?_
          conv => whnf
          refine if_intro (fun hd => ?_) (fun hd => ?_)
          · have hg0 := goon [] (by unfold subR; rw [if_neg (by rw [he]; simp), if_pos hd])
            rw [List.append_nil] at hg0
            conv => whnf
            refine ⟨(q + 1, Hb, .slice outb outn outc, Oq, cs, acc), ⟨by dsimp only; omega, hsq.trans (sa.trans sb), hoq, hcq.up (sa.trans sb), hg0⟩, by dsimp only; omega, ?_⟩
            refine ⟨rfl, rfl, ?_⟩
            conv => whnf
            repeat (refine ⟨rfl, ?_⟩; conv => whnf)
            refine ⟨by show En.v (.int .i64 (IntKind.i64.wrap (q + 1))) = _; rw [wrap_id (by omega) (by omega)] <;> rfl, ?_⟩
            conv => whnf
            repeat (refine ⟨rfl, ?_⟩; conv => whnf)
            exact trivial
          conv => whnf
          rw [wrap_id (n := (j : Int) + 1) (by omega) (by omega)]
          have esub : subR (runB (c.gates.drop (j + 1))) bj c.gates[j] q = runB (c.gates.drop (j + 1)) (nextB bj c.gates[j] q).1 := by unfold subR; rw [if_neg (by rw [he]; simp), if_neg (by rw [hd]; simp)]
          refine (Cl.outBs (ih (c.gates.length - (j + 1)) (by omega) (j + 1) (by omega) (nextB bj c.gates[j] q).1 hnx Hb _ _ (hcc.up (hsj.trans (hsq.trans (sa.trans sb)))) ⟨_, _, rfl, hov2.up sb, NumH.up hsv2 sb⟩)).use fun r Hc sc hr => ?_
          obtain ⟨_, l, rfl, cs2, hl1, hl2⟩ := hr
          obtain ⟨lb, lc, rfl⟩ := hl1.sl
          conv => whnf
          refine if_intro (fun he2 => ?_) (fun he2 => ?_)
          · have he2 : (runB (c.gates.drop (j + 1)) (nextB bj c.gates[j] q).1).2 ≠ 0 := by simpa using he2
            conv => whnf
            rw [stop _ (by rw [esub]) he2]
            exact OutBsO.bad
          have he2 : (runB (c.gates.drop (j + 1)) (nextB bj c.gates[j] q).1).2 = 0 := by simpa using he2
          have hg0 := goon (runB (c.gates.drop (j + 1)) (nextB bj c.gates[j] q).1).1 (by rw [esub]; exact Prod.ext rfl he2)
          have hl256 : cs2.length ≤ 256 := by
            rw [hl2.1]
            exact Nat.le_trans (runB_len _ _) (Nat.le_trans (Nat.pow_le_pow_right (by decide) (Nat.le_trans (foundN_drop _ _) hfew)) (by decide))
          conv => whnf
          obtain ⟨_, hsrc1, hsrc2⟩ := hl1.src
          refine append_many (xs := cs) (ys := cs2) hoq rfl (fun y hy => hl1.1 y hy) (fun v hv => ?_) ⟨lb, lc, rfl, hsrc1, fun a ha hp => hsrc2 Oq a ha hp⟩ ?_ fun v2 O4 hO4 _ => ?_
          · obtain ⟨y, hy, hvy⟩ := List.mem_flatten.1 hv
            obtain ⟨k, hk, rfl⟩ := List.mem_iff_getElem.1 hy
            obtain ⟨ov3, sv3, e3, h3o, h3s⟩ := hl2.2 k _ _ (List.getElem?_eq_getElem (by rw [← hl2.1]; exact hk)) (List.getElem?_eq_getElem hk)
            obtain ⟨_, _, rfl, _⟩ := h3o
            obtain ⟨_, _, rfl, _⟩ := h3s
            rw [e3] at hvy
            simp at hvy
            rcases hvy with rfl | rfl | rfl <;> rfl
          · rw [hcq.1]
            omega
          obtain ⟨v2b, v2n, v2c, rfl⟩ := OwnS.sl hO4
          conv => whnf
          refine ⟨(q + 1, Hc, .slice v2b v2n v2c, O4, cs ++ cs2, acc ++ (runB (c.gates.drop (j + 1)) (nextB bj c.gates[j] q).1).1), ⟨by dsimp only; omega, hsq.trans (sa.trans (sb.trans sc)), hO4, (hcq.up (sa.trans (sb.trans sc))).app hl2, hg0⟩, by dsimp only; omega, ?_⟩
          refine ⟨rfl, rfl, ?_⟩
          conv => whnf
          repeat (refine ⟨rfl, ?_⟩; conv => whnf)
          refine ⟨by show En.v (.int .i64 (IntKind.i64.wrap (q + 1))) = _; rw [wrap_id (by omega) (by omega)] <;> rfl, ?_⟩
          conv => whnf
          repeat (refine ⟨rfl, ?_⟩; conv => whnf)
          exact trivial
        have hiq : q = 2 := by
          have := of_decide_eq_false hcqq
          omega
        rcases hst with ⟨h, _⟩ | ⟨h, _⟩ | ⟨_, hres⟩
        · omega
        · omega
        conv => whnf
        rw [hres]
        exact ⟨_, cs, rfl, hoq, hcq⟩
    · have hM : isM c.gates[j] = true := by
        unfold isM
        have e1 : (c.gates[j].kind == 13) = true := by simpa using h13
        rw [e1]
        rfl
      rw [if_neg (by rw [hM]; simp)] at hrun
      conv => whnf
      refine W_loop (pol := (fun | 84 => .own | _ => .loc)) Γok (Nat × PH × Value × PH × List (List Value) × List Br) (fun z => z.1 ≤ 2 ∧ Sub Hj z.2.1 ∧ OwnS z.2.2.2.1 3 39 z.2.2.1 z.2.2.2.2.1 ∧ BrsC z.2.1 z.2.2.2.2.2 z.2.2.2.2.1 ∧ ((z.1 = 0 ∧ z.2.2.2.2.2 = []) ∨ (z.1 = 1 ∧ (subR (runB (c.gates.drop (j + 1))) bj c.gates[j] 0).2 = 0 ∧ z.2.2.2.2.2 = (subR (runB (c.gates.drop (j + 1))) bj c.gates[j] 0).1) ∨ (z.1 = 2 ∧ runB (c.gates.drop i) b = (z.2.2.2.2.2, 0)))) (fun z => 2 - z.1) (fun z => [(12, .v z.2.2.1), (13, .v (.int .i64 z.1))]) (fun _ => []) (fun z => z.2.1) (fun z => z.2.2.2.1) ⟨(0, Hj, .slice none 0 0, emp, [], []), ⟨by simp, Sub.refl _, ⟨by simp, .inl ⟨rfl, rfl⟩⟩, BrsC.nil _, .inl ⟨rfl, rfl⟩⟩, rfl, rfl, ?_⟩ ?_
      · conv => whnf
        repeat (refine ⟨rfl, ?_⟩; conv => whnf)
        exact trivial
      rintro ⟨q, Hq, outv, Oq, cs, acc⟩ ⟨h1q, hsq, hoq, hcq, hst⟩
      dsimp only at h1q hsq hoq hcq hst
      obtain ⟨outb, outn, outc, rfl⟩ := OwnS.sl hoq
      conv => whnf
      refine if_intro (fun hcqq => ?_) (fun hcqq => ?_)
      · have hiq : q < 2 := by
          have := of_decide_eq_true hcqq
          omega
        -- what comes of this outcome
        have stop : ∀ e : Int, (subR (runB (c.gates.drop (j + 1))) bj c.gates[j] q).2 = e → e ≠ 0 → runB (c.gates.drop i) b = ([], e) := by
          intro e he hne
          rcases hst with ⟨h, _⟩ | ⟨h, h0, _⟩ | ⟨h, _⟩
          · subst h
            rw [hrun, if_pos (by rw [show ((0 : Nat) : Int) = 0 from rfl] at he; rw [he]; exact hne)]
            rw [show ((0 : Nat) : Int) = 0 from rfl] at he
            rw [he]
          · subst h
            rw [show ((1 : Nat) : Int) = 1 from rfl] at he
            rw [hrun, if_neg (by rw [h0]; simp), if_pos (by rw [he]; exact hne), he]
          · omega
        have goon : ∀ bs : List Br, subR (runB (c.gates.drop (j + 1))) bj c.gates[j] q = (bs, 0) → ((q + 1 = 0 ∧ acc ++ bs = []) ∨ (q + 1 = 1 ∧ (subR (runB (c.gates.drop (j + 1))) bj c.gates[j] 0).2 = 0 ∧ acc ++ bs = (subR (runB (c.gates.drop (j + 1))) bj c.gates[j] 0).1) ∨ (q + 1 = 2 ∧ runB (c.gates.drop i) b = (acc ++ bs, 0))) := by
          intro bs hbs
          rcases hst with ⟨h, h0⟩ | ⟨h, h0, h1⟩ | ⟨h, _⟩
          · subst h
            rw [show ((0 : Nat) : Int) = 0 from rfl] at hbs
            exact .inr (.inl ⟨rfl, by rw [hbs], by rw [h0, hbs] <;> rfl⟩)
          · subst h
            rw [show ((1 : Nat) : Int) = 1 from rfl] at hbs
            refine .inr (.inr ⟨rfl, ?_⟩)
            rw [hrun, if_neg (by rw [h0]; simp), hbs, if_neg (by simp), h1]
          · omega
        have acclen : acc.length ≤ 256 := by
          rcases hst with ⟨h, h0⟩ | ⟨h, h0, h1⟩ | ⟨h, _⟩
          · rw [h0]; simp
          · rw [h1]
            refine Nat.le_trans (?_ : _ ≤ 2 ^ foundN (c.gates.drop (j + 1))) (Nat.le_trans (Nat.pow_le_pow_right (by decide) (Nat.le_trans (foundN_drop _ _) hfew)) (by decide))
            unfold subR
            split
            · simp
            split
            · simp
            · exact runB_len _ _
          · omega
        conv => whnf
        refine (d58 bj c.gates[j] q n bits hgj (by omega) hbj.len hbj.chk (by omega) _ _ _ (hbH.up hsq) (hwe.up (hsj.trans hsq))).use fun r Ha sa hr => ?_
        obtain ⟨_, u, rfl, ov2, sv2, rfl, hov2, hsv2⟩ := hr
        obtain ⟨ov2b, ov2c, rfl, hov2c, _⟩ := id hov2
        obtain ⟨sv2b, sv2c, rfl, _⟩ := id hsv2
        conv => whnf
        intro b14
        conv => whnf
        refine if_intro (fun he => ?_) (fun he => ?_)
        · have he : (nextB bj c.gates[j] q).2 ≠ 0 := by simpa using he
          conv => whnf
          rw [stop _ (by unfold subR; rw [if_pos he]) he]
          exact OutBsO.bad
        have he : (nextB bj c.gates[j] q).2 = 0 := by simpa using he
        have hnx := hbj.next (g := c.gates[j]) (o := q) he
        conv => whnf
        refine (d59 (nextB bj c.gates[j] q).1.state (by have := hnx.len; omega) hnx.chk _ _ hsv2).val fun Hb sb => ?_
        conv => whnf
        refine if_intro (fun hd => ?_) (fun hd => ?_)
        · have hg0 := goon [] (by unfold subR; rw [if_neg (by rw [he]; simp), if_pos hd])
          rw [List.append_nil] at hg0
          conv => whnf
          refine ⟨(q + 1, Hb, .slice outb outn outc, Oq, cs, acc), ⟨by dsimp only; omega, hsq.trans (sa.trans sb), hoq, hcq.up (sa.trans sb), hg0⟩, by dsimp only; omega, ?_⟩
          refine ⟨rfl, rfl, ?_⟩
          conv => whnf
          repeat (refine ⟨rfl, ?_⟩; conv => whnf)
          refine ⟨by show En.v (.int .i64 (IntKind.i64.wrap (q + 1))) = _; rw [wrap_id (by omega) (by omega)] <;> rfl, ?_⟩
          conv => whnf
          repeat (refine ⟨rfl, ?_⟩; conv => whnf)
          exact trivial
        conv => whnf
        rw [wrap_id (n := (j : Int) + 1) (by omega) (by omega)]
        have esub : subR (runB (c.gates.drop (j + 1))) bj c.gates[j] q = runB (c.gates.drop (j + 1)) (nextB bj c.gates[j] q).1 := by unfold subR; rw [if_neg (by rw [he]; simp), if_neg (by rw [hd]; simp)]
        refine (Cl.outBs (ih (c.gates.length - (j + 1)) (by omega) (j + 1) (by omega) (nextB bj c.gates[j] q).1 hnx Hb _ _ (hcc.up (hsj.trans (hsq.trans (sa.trans sb)))) ⟨_, _, rfl, hov2.up sb, NumH.up hsv2 sb⟩)).use fun r Hc sc hr => ?_
        obtain ⟨_, l, rfl, cs2, hl1, hl2⟩ := hr
        obtain ⟨lb, lc, rfl⟩ := hl1.sl
        conv => whnf
        refine if_intro (fun he2 => ?_) (fun he2 => ?_)
        · have he2 : (runB (c.gates.drop (j + 1)) (nextB bj c.gates[j] q).1).2 ≠ 0 := by simpa using he2
          conv => whnf
          rw [stop _ (by rw [esub]) he2]
          exact OutBsO.bad
        have he2 : (runB (c.gates.drop (j + 1)) (nextB bj c.gates[j] q).1).2 = 0 := by simpa using he2
        have hg0 := goon (runB (c.gates.drop (j + 1)) (nextB bj c.gates[j] q).1).1 (by rw [esub]; exact Prod.ext rfl he2)
        have hl256 : cs2.length ≤ 256 := by
          rw [hl2.1]
          exact Nat.le_trans (runB_len _ _) (Nat.le_trans (Nat.pow_le_pow_right (by decide) (Nat.le_trans (foundN_drop _ _) hfew)) (by decide))
        conv => whnf
        obtain ⟨_, hsrc1, hsrc2⟩ := hl1.src
        refine append_many (xs := cs) (ys := cs2) hoq rfl (fun y hy => hl1.1 y hy) (fun v hv => ?_) ⟨lb, lc, rfl, hsrc1, fun a ha hp => hsrc2 Oq a ha hp⟩ ?_ fun v2 O4 hO4 _ => ?_
        · obtain ⟨y, hy, hvy⟩ := List.mem_flatten.1 hv
          obtain ⟨k, hk, rfl⟩ := List.mem_iff_getElem.1 hy
          obtain ⟨ov3, sv3, e3, h3o, h3s⟩ := hl2.2 k _ _ (List.getElem?_eq_getElem (by rw [← hl2.1]; exact hk)) (List.getElem?_eq_getElem hk)
          obtain ⟨_, _, rfl, _⟩ := h3o
          obtain ⟨_, _, rfl, _⟩ := h3s
          rw [e3] at hvy
          simp at hvy
          rcases hvy with rfl | rfl | rfl <;> rfl
        · rw [hcq.1]
          omega
        obtain ⟨v2b, v2n, v2c, rfl⟩ := OwnS.sl hO4
        conv => whnf
        refine ⟨(q + 1, Hc, .slice v2b v2n v2c, O4, cs ++ cs2, acc ++ (runB (c.gates.drop (j + 1)) (nextB bj c.gates[j] q).1).1), ⟨by dsimp only; omega, hsq.trans (sa.trans (sb.trans sc)), hO4, (hcq.up (sa.trans (sb.trans sc))).app hl2, hg0⟩, by dsimp only; omega, ?_⟩
        refine ⟨rfl, rfl, ?_⟩
        conv => whnf
        repeat (refine ⟨rfl, ?_⟩; conv => whnf)
        refine ⟨by show En.v (.int .i64 (IntKind.i64.wrap (q + 1))) = _; rw [wrap_id (by omega) (by omega)] <;> rfl, ?_⟩
        conv => whnf
        repeat (refine ⟨rfl, ?_⟩; conv => whnf)
        exact trivial
      have hiq : q = 2 := by
        have := of_decide_eq_false hcqq
        omega
      rcases hst with ⟨h, _⟩ | ⟨h, _⟩ | ⟨_, hres⟩
      · omega
      · omega
      conv => whnf
      rw [hres]
      exact ⟨_, cs, rfl, hoq, hcq⟩
  have hij : j = c.gates.length := by
    have := of_decide_eq_false hcj
    omega
  subst hij
  rw [List.drop_length] at hrun
  have hfin : runB [] bj = if deadB bj.state = true then ([], 0) else ([bj], 0) := rfl
  rw [hrun, hfin]
  conv => whnf
  refine (d59 bj.state (by have := hbj.len; omega) hbj.chk _ _ hsvj).val fun Ha sa => ?_
  conv => whnf
  refine if_intro (fun hd => ?_) (fun hd => ?_)
  · rw [if_pos hd]
    conv => whnf
    exact OutBsO.bad
  rw [if_neg (by rw [hd]; simp)]
  conv => whnf
  intro b84 hb84 hO84
  conv => whnf
  refine ⟨_, [[.slice ovb bj.outs.length ovc, .int .i64 bj.bits, .slice svb bj.state.length svc]], rfl, ⟨fun x hx => by simp at hx; rw [hx] <;> rfl, .inr ⟨b84, 1, [], rfl, ins_same _ _ _, by simp, by simp⟩⟩, BrsC.one ⟨_, _, rfl, hovj.up sa, NumH.up hsvj sa⟩⟩
end Go.Proofs.YtmhnalikebkhjaaGreatDoor


namespace Go.Proofs.YtmhnalikebkhjaaGreatDoor
open Go.Proofs.YtmhnalikebkhjaaGreatDoor.X Go.Proofs.YtmhnalikebkhjaaGreatDoor.X.PH
set_option maxRecDepth 100000

structure RunOK (c : Ct) (v : Vec) (n m : Nat) : Prop where
  n6 : n ≤ 6
  m8 : m ≤ 8
  wires : c.wires = n
  bits : c.bits = m
  len : c.gates.length ≤ 120
  few : foundN c.gates ≤ 8
  gates : ∀ g ∈ c.gates, RGate g n m
  vlen : v.length = 2 ^ n
  right : ∀ x ∈ v, checkF x.1 x.2 = 0
theorem run_ok {c : Ct} {v : Vec} (h : beginErr c v = 0) : ∃ n m, RunOK c v n m := by
  unfold beginErr at h
  by_cases h1 : circErr c ≠ 0
  · rw [if_pos h1] at h; exact absurd h h1
  rw [if_neg h1] at h
  by_cases h2 : stErr v ≠ 0
  · rw [if_pos h2] at h; exact absurd h h2
  rw [if_neg h2] at h
  by_cases h3 : sizeI v.length ≠ c.wires
  · rw [if_pos h3] at h; cases h
  rw [if_neg h3] at h
  by_cases h4 : foundN c.gates > 8
  · rw [if_pos h4] at h; cases h
  obtain ⟨hin, hl, hg⟩ := circ_gates (c := c) (by simpa using h1)
  obtain ⟨hr, q, hq, hvl, hsz⟩ := stErr_right (v := v) (by simpa using h2)
  obtain ⟨m, hm⟩ := natI (a := c.bits) (by omega)
  have hw : c.wires = q := by
    have : sizeI v.length = c.wires := by simpa using h3
    rw [← this, hsz]
  exact ⟨q, m, by omega, by omega, hw, hm, hl, by omega, fun g hgm => rgate_of (by omega) (by omega) hw hm (hg g hgm), hvl, hr⟩
theorem least_L {v : Vec} (h : ∀ x ∈ v, checkF x.1 x.2 = 0) : ∀ x ∈ leastV v, IsL x := fun x hx => by
  obtain ⟨y, hy, rfl⟩ := List.mem_map.1 hx
  rw [LeastF_eq (h y hy)]
  exact form_L (h y hy)
def startB (v : Vec) : Br := ⟨[], 0, leastV v⟩
theorem RunOK.start {c : Ct} {v : Vec} {n m : Nat} (h : RunOK c v n m) : BrOK (startB v) n 0 := ⟨by show (leastV v).length = _; rw [leastV_len]; exact h.vlen, least_L h.right, Nat.le_refl _⟩
def runR (c : Ct) (v : Vec) : List Br × Int := if beginErr c v ≠ 0 then ([], beginErr c v) else runB c.gates (startB v)
theorem IntsC.nil (H : PH) : IntsC H (.slice none 0 0) [] := ⟨none, 0, rfl, by decide, ⟨none, 0, rfl, .inl ⟨rfl, rfl⟩⟩⟩
theorem OutBs.bad {H : PH} {e : Int} : OutBs H (.tuple #[.slice none 0 0, .int .i64 e]) ([], e) := ⟨_, rfl, [], ⟨(fun c hc => by cases hc), _, _, rfl, .inl ⟨rfl, rfl⟩⟩, BrsC.nil H⟩
theorem d13 (c : Ct) (v : Vec) (hfit : c.fit) (hv : v.length ≤ 100000) (H : PH) (x y : Value) (hx : CircH H x c) (hy : NumH H y v) : Cl Tryz.prog 13 [x, y] H emp fun r H' _ => OutBs H' r (runR c v) := by
  obtain ⟨gb, gc, rfl, hg⟩ := hx.sl
  obtain ⟨yb, yc, rfl, _⟩ := id hy
  refine Cl_of (pol := polL) Γok Tryz.func13 (by kernel_rfl) rfl ?_
  conv => whnf
  intro b2
  conv => whnf
  refine (d54 c v hfit (by omega) _ _ _ ⟨_, rfl, hg⟩ hy).val fun Ha sa => ?_
  conv => whnf
  refine if_intro (fun h => ?_) (fun h => ?_)
  · conv => whnf
    rw [show runR c v = ([], beginErr c v) from if_pos (by simpa using h)]
    exact OutBs.bad
  have h0 : beginErr c v = 0 := by simpa using h
  rw [show runR c v = runB c.gates (startB v) from if_neg (by rw [h0]; simp)]
  obtain ⟨n, m, hok⟩ := run_ok h0
  conv => whnf
  refine W_draw (pol := polL) Γok mixes [(0, .pend), (1, .pendO), (2, .lock), (3, .pendO), (4, .lock), (5, .pendO), (6, .pendO), (7, .pendO), (8, .pendO)] 20 (by kernel_rfl) rfl ?_
  conv => whnf
  refine (d56 v hv hok.right _ _ (NumH.up hy sa)).use fun r Hb sb hr => ?_
  obtain ⟨_, hr⟩ := hr
  obtain ⟨rb, rc, rfl, _⟩ := id hr
  conv => whnf
  refine (Cl.outBs (d55o c n m hok.len hok.few hok.gates hok.n6 c.gates.length 0 (by omega) (startB v) hok.start _ (cv c (.slice gb c.gates.length gc)) _ ⟨_, rfl, hg.up (sa.trans sb)⟩ ⟨.slice none 0 0, _, rfl, IntsC.nil _, hr⟩)).use fun r Hc sc hr => ?_
  obtain ⟨_, u, rfl, hu⟩ := hr
  conv => whnf
  rw [List.drop_zero] at hu ⊢
  exact ⟨u, rfl, hu⟩
end Go.Proofs.YtmhnalikebkhjaaGreatDoor


namespace Go.Proofs.YtmhnalikebkhjaaGreatDoor
open Go.Proofs.YtmhnalikebkhjaaGreatDoor.X Go.Proofs.YtmhnalikebkhjaaGreatDoor.X.PH
set_option maxRecDepth 100000

theorem dead_eq {v : Vec} (h : ∀ x ∈ v, IsL x) : deadB v = v.all fun x => eqN x (P4.zero, 0) := by
  unfold deadB
  induction v with
  | nil => rfl
  | cons x l ih =>
    rw [List.all_cons, List.all_cons, ih fun y hy => h y (List.mem_cons_of_mem _ hy), (h x (List.mem_cons_self ..)).form]
theorem d109 (x : P4 × Int) (H : PH) : Cl Tryz.prog 109 [nv x] H emp fun r _ _ => r = .bool (eqN x (P4.zero, 0)) := by
  obtain ⟨⟨a, b, c, d⟩, k⟩ := x
  refine Cl_of (pol := polL) Γok Tryz.func109 (by kernel_rfl) rfl ?_
  conv => whnf
  intro b1
  conv => whnf
  rfl
theorem d67 (v : Vec) (hv : v.length < 9223372036854775808) (hL : ∀ x ∈ v, IsL x) (H : PH) (x : Value) (hx : NumH H x v) : Cl Tryz.prog 67 [x] H emp fun r _ _ => r = .bool (deadB v) := by
  obtain ⟨xb, xc, rfl, _⟩ := id hx
  refine Cl_of (pol := polL) Γok Tryz.func67 (by kernel_rfl) rfl ?_
  conv => whnf
  refine (d108 v (fun x => eqN x (P4.zero, 0)) _ _ _ _ _ hx (fun y _ => ⟨109, [], [], rfl, fun H' _ => d109 y H'⟩) hv).val fun Ha sa => ?_
  conv => whnf
  rw [dead_eq hL]
def padI (l : List Int) : List Int := l ++ List.replicate (8 - l.length) 0
theorem eight {α : Type} {l : List α} (h : l.length = 8) : ∃ a0 a1 a2 a3 a4 a5 a6 a7, l = [a0, a1, a2, a3, a4, a5, a6, a7] := by
  match l, h with
  | [a0, a1, a2, a3, a4, a5, a6, a7], _ => exact ⟨a0, a1, a2, a3, a4, a5, a6, a7, rfl⟩
theorem padI_len {l : List Int} (h : l.length ≤ 8) : (padI l).length = 8 := by simp [padI]; omega
theorem d66 (l : List Int) (hl : l.length ≤ 8) (H : PH) (x : Value) (hx : IntsH H x l) : Cl Tryz.prog 66 [x] H emp fun r _ _ => r = .agg ⟨(padI l).map fun a => .int .i64 a⟩ := by
  obtain ⟨xb, xc, rfl, hx2⟩ := id hx
  refine Cl_of (pol := (fun | 3 => .own | _ => .loc)) Γok Tryz.func66 (by kernel_rfl) rfl ?_
  conv => whnf
  intro b2
  conv => whnf
  intro b3 hb3 hO3
  conv => whnf
  unfold copyK
  obtain ⟨a0, a1, a2, a3, a4, a5, a6, a7, e8⟩ := eight (padI_len hl)
  refine ⟨_, _, _, _, _, _, l.map fun a => .int .i64 a, rfl, rfl, by simp; omega, (fun v hv => by obtain ⟨a, _, rfl⟩ := List.mem_map.1 hv; rfl), ?_, ?_, (fun h => by cases h), ?_⟩
  · intro e
    rcases hx2 with ⟨h, _⟩ | ⟨b, off, c, t, fr, h, _⟩
    · exact h
    · rw [e] at h; cases h
  · intro a ha hp
    rcases hx2 with ⟨h, _⟩ | ⟨b, off, c, t, fr, h, h1, h2⟩
    · omega
    · rw [h] at ha
      cases ha
      refine ⟨rfl, by simp; omega, c, t, fr, .inl h1, ?_⟩
      rw [show min l.length 8 * 1 = (l.map fun a => (Value.int .i64 a)).length by simp; omega]
      exact h2
  · intro a ha
    cases ha
    refine ⟨b3, 0, _, _, rfl, ins_same _ _ _, by simp; omega, ?_⟩
    conv => whnf
    have ec : List.take 0 [Value.int .i64 0, .int .i64 0, .int .i64 0, .int .i64 0, .int .i64 0, .int .i64 0, .int .i64 0, .int .i64 0] ++ (l.map fun a => Value.int .i64 a) ++ List.drop (0 + min l.length 8 * 1) [Value.int .i64 0, .int .i64 0, .int .i64 0, .int .i64 0, .int .i64 0, .int .i64 0, .int .i64 0, .int .i64 0] = [.int .i64 a0, .int .i64 a1, .int .i64 a2, .int .i64 a3, .int .i64 a4, .int .i64 a5, .int .i64 a6, .int .i64 a7] := by
      have : ([a0, a1, a2, a3, a4, a5, a6, a7].map fun a => Value.int .i64 a) = [.int .i64 a0, .int .i64 a1, .int .i64 a2, .int .i64 a3, .int .i64 a4, .int .i64 a5, .int .i64 a6, .int .i64 a7] := rfl
      rw [← this, ← e8, padI, List.map_append, List.take_zero, List.nil_append]
      congr 1
      rw [show 0 + min l.length 8 * 1 = l.length by omega, show ([Value.int .i64 0, .int .i64 0, .int .i64 0, .int .i64 0, .int .i64 0, .int .i64 0, .int .i64 0, .int .i64 0] : List Value) = List.replicate 8 (.int .i64 0) from rfl, List.drop_replicate, List.map_replicate]
    refine ⟨[.int .i64 a0, .int .i64 a1, .int .i64 a2, .int .i64 a3, .int .i64 a4, .int .i64 a5, .int .i64 a6, .int .i64 a7], ⟨rfl, rfl, _, _, _, .inr (ins_same _ _ _), ?_⟩, ?_⟩
    · rw [← ec]
      refine List.take_of_length_le ?_
      rw [List.drop_zero, ec]
      exact Nat.le_refl _
    conv => whnf
    rw [e8]
    rfl
/-- A path. -/
def pv (l : List Int) (k : Int) : Value := .agg ⟨(l.map fun a => .int .i64 a) ++ [.int .i64 k]⟩
theorem d102 (p : Value) (l : List Int) (k : Int) (hl : l.length = 8) (hp : p = pv l k) (H : PH) : Cl Tryz.prog 102 [p] H emp fun r H' _ => IntsH H' r [0, 1] := by
  subst hp
  obtain ⟨a0, a1, a2, a3, a4, a5, a6, a7, rfl⟩ := eight hl
  refine Cl_of (pol := (fun | 3 => .imm | _ => .loc)) Γok Tryz.func102 (by kernel_rfl) rfl ?_
  conv => whnf
  intro b1
  conv => whnf
  intro b3 hb3 hO3
  conv => whnf
  exact ⟨_, _, rfl, .inr ⟨b3, 0, _, _, _, rfl, ins_same _ _ _, rfl⟩⟩
end Go.Proofs.YtmhnalikebkhjaaGreatDoor


namespace Go.Proofs.YtmhnalikebkhjaaGreatDoor
open Go.Proofs.YtmhnalikebkhjaaGreatDoor.X Go.Proofs.YtmhnalikebkhjaaGreatDoor.X.PH
set_option maxRecDepth 100000

def runCells (c : Ct) (gs : Value) (bm : Nat) (ch : Value) (all : Bool) : List Value := [.int .i64 c.wires, .int .i64 c.bits, gs, .map (some bm), ch, .bool all]
def BegunR (M' : PH) (c : Ct) (v : Vec) (gs r : Value) : Prop :=
  (beginErr c v ≠ 0 ∧ r = .tuple #[.agg ⟨[.int .i64 0, .int .i64 0, .slice none 0 0, .map none, .nilFunc, .bool false]⟩, .int .i64 0, .int .i64 (beginErr c v)]) ∨
  (beginErr c v = 0 ∧ ∃ bm, M' bm = some (.map #[] 0) ∧ r = .tuple #[.agg ⟨runCells c gs bm (.func (.func 102) #[] #[]) false⟩, .int .i64 (foundN c.gates), .int .i64 0])
theorem d61 (c : Ct) (v : Vec) (gs : Value) (hfit : c.fit) (hv : v.length ≤ 100000) (H : PH) (y : Value) (hx : GatesH H gs c.gates) (hy : NumH H y v) : Cl Tryz.prog 61 [cv c gs, y] H emp fun r _ M' => BegunR M' c v gs r := by
  have hg := hx
  obtain ⟨gb, gc, rfl⟩ := hx.sl
  obtain ⟨yb, yc, rfl, _⟩ := id hy
  have hlen := hfit.1
  refine Cl_of (pol := polL) Γok Tryz.func61 (by kernel_rfl) rfl ?_
  conv => whnf
  intro b2
  conv => whnf
  intro b4
  conv => whnf
  refine (d88 c hfit _ _ ⟨_, rfl, hg⟩).val fun Ha sa => ?_
  conv => whnf
  refine if_intro (fun h => ?_) (fun h => ?_)
  · conv => whnf
    have h : circErr c ≠ 0 := by simpa using h
    have e : beginErr c v = circErr c := if_pos h
    exact .inl ⟨by rw [e]; exact h, by rw [e]⟩
  have h0 : circErr c = 0 := by simpa using h
  conv => whnf
  refine (d44 v (by omega) _ _ (NumH.up hy sa)).val fun Hb sb => ?_
  replace sb := sa.trans sb
  conv => whnf
  refine if_intro (fun h => ?_) (fun h => ?_)
  · conv => whnf
    have h : (wiresI v).2 ≠ 0 := by simpa using h
    have e : beginErr c v = (wiresI v).2 := by
      unfold beginErr
      rw [if_neg (by rw [h0]; simp), wires_err] 
      rw [wires_err] at h
      rw [if_pos h]
    exact .inl ⟨by rw [e]; exact h, by rw [e]⟩
  have h1 : stErr v = 0 := by
    rw [← wires_err]
    simpa using h
  have ew : (wiresI v).1 = sizeI v.length := by unfold wiresI; rw [if_neg (by rw [h1]; simp)]
  conv => whnf
  refine if_intro (fun h => ?_) (fun h => ?_)
  · conv => whnf
    have h : sizeI v.length ≠ c.wires := by rw [← ew]; simpa using h
    have e : beginErr c v = 7 := by
      unfold beginErr
      rw [if_neg (by rw [h0]; simp), if_neg (by rw [h1]; simp), if_pos h]
    exact .inl ⟨by rw [e]; decide, by rw [e]⟩
  have h2 : sizeI v.length = c.wires := by rw [← ew]; simpa using h
  conv => whnf
  refine W_loop (pol := polL) Γok (Nat × PH) (fun i => i.1 ≤ c.gates.length ∧ Sub Hb i.2) (fun i => c.gates.length - i.1) (fun i => [(10, .v (.int .i64 (foundN (c.gates.take i.1)))), (36, .v (.int .i64 i.1))]) (fun _ => []) (fun i => i.2) (fun _ => emp) ⟨(0, Hb), ⟨by simp, Sub.refl _⟩, rfl, rfl, ?_⟩ ?_
  · conv => whnf
    repeat (refine ⟨rfl, ?_⟩; conv => whnf)
    exact trivial
  rintro ⟨i, Hi⟩ ⟨h1i, hsi⟩
  dsimp only at h1i hsi
  conv => whnf
  refine if_intro (fun hci => ?_) (fun hci => ?_)
  · have hii : i < c.gates.length := by
      have := of_decide_eq_true hci
      omega
    have hle := foundN_le c.gates i
    have hsi' := hsi
    obtain ⟨b, off, w, wb, wc, rfl, hw, hrd, hwe⟩ := hg.rd hii
    subst hw
    have hb := hrd Hi emp (sb.trans hsi')
    conv => whnf
    refine dec_intro (by omega) ?_
    conv => whnf
    refine ⟨_, hb, ?_⟩
    conv => whnf
    intro b12
    conv => whnf
    refine if_intro (fun h13 => ?_) (fun h13 => ?_)
    · conv => whnf
      rw [wrap_id (n := (foundN (c.gates.take i) : Int) + 1) (by omega) (by omega)]
      refine ⟨(i + 1, Hi), ⟨by dsimp only; omega, hsi⟩, by dsimp only; omega, ?_⟩
      refine ⟨rfl, rfl, ?_⟩
      dsimp only
      rw [foundN_snoc hii, show isM c.gates[i] = true by unfold isM; rw [h13] <;> rfl, if_pos rfl]
      conv => whnf
      repeat (refine ⟨rfl, ?_⟩; conv => whnf)
      refine ⟨by show En.v (.int .i64 (IntKind.i64.wrap (i + 1))) = _; rw [wrap_id (by omega) (by omega)] <;> rfl, ?_⟩
      conv => whnf
      repeat (refine ⟨rfl, ?_⟩; conv => whnf)
      exact trivial
    conv => whnf
    refine if_intro (fun h14 => ?_) (fun h14 => ?_)
    · conv => whnf
      rw [wrap_id (n := (foundN (c.gates.take i) : Int) + 1) (by omega) (by omega)]
      refine ⟨(i + 1, Hi), ⟨by dsimp only; omega, hsi⟩, by dsimp only; omega, ?_⟩
      refine ⟨rfl, rfl, ?_⟩
      dsimp only
      rw [foundN_snoc hii, show isM c.gates[i] = true by unfold isM; rw [h14, Bool.or_true], if_pos rfl]
      conv => whnf
      repeat (refine ⟨rfl, ?_⟩; conv => whnf)
      refine ⟨by show En.v (.int .i64 (IntKind.i64.wrap (i + 1))) = _; rw [wrap_id (by omega) (by omega)] <;> rfl, ?_⟩
      conv => whnf
      repeat (refine ⟨rfl, ?_⟩; conv => whnf)
      exact trivial
    conv => whnf
    refine ⟨(i + 1, Hi), ⟨by dsimp only; omega, hsi⟩, by dsimp only; omega, ?_⟩
    refine ⟨rfl, rfl, ?_⟩
    dsimp only
    rw [foundN_snoc hii, show isM c.gates[i] = false by unfold isM; rw [h13, h14] <;> rfl, if_neg (by simp), Nat.add_zero]
    conv => whnf
    repeat (refine ⟨rfl, ?_⟩; conv => whnf)
    refine ⟨by show En.v (.int .i64 (IntKind.i64.wrap (i + 1))) = _; rw [wrap_id (by omega) (by omega)] <;> rfl, ?_⟩
    conv => whnf
    repeat (refine ⟨rfl, ?_⟩; conv => whnf)
    exact trivial
  have hii : i = c.gates.length := by
    have := of_decide_eq_false hci
    omega
  subst hii
  conv => whnf
  rw [List.take_length]
  refine if_intro (fun h => ?_) (fun h => ?_)
  · conv => whnf
    have h : foundN c.gates > 8 := by
      have := of_decide_eq_true h
      omega
    have e : beginErr c v = 2 := by
      unfold beginErr
      rw [if_neg (by rw [h0]; simp), if_neg (by rw [h1]; simp), if_neg (by rw [h2]; simp), if_pos h]
    exact .inl ⟨by rw [e]; decide, by rw [e]⟩
  have h3 : ¬ foundN c.gates > 8 := by
    have := of_decide_eq_false h
    omega
  have e : beginErr c v = 0 := by
    unfold beginErr
    rw [if_neg (by rw [h0]; simp), if_neg (by rw [h1]; simp), if_neg (by rw [h2]; simp), if_neg h3]
  conv => whnf
  intro bm hbm hOm
  conv => whnf
  exact .inr ⟨e, bm, ins_same _ _ _, rfl⟩
end Go.Proofs.YtmhnalikebkhjaaGreatDoor


namespace Go.Proofs.YtmhnalikebkhjaaGreatDoor
open Go.Proofs.YtmhnalikebkhjaaGreatDoor.X Go.Proofs.YtmhnalikebkhjaaGreatDoor.X.PH
set_option maxRecDepth 100000

def subG (all : Bool) (run : Br → List Br × Int) (b : Br) (g : Gt) (o : Int) : List Br × Int :=
  if all = false ∧ deadB (keptV b.state (wire0 g) o) = true then ([], 0) else run (nextB b g o).1
def evC (sub : Int → List Br × Int) : List Int → List Br × Int
  | [] => ([], 0)
  | o :: os => if (sub o).2 ≠ 0 then sub o else ((sub o).1 ++ (evC sub os).1, (evC sub os).2)
def evG (all : Bool) (ch : Nat → List Int) : List Gt → Br → List Br × Int
  | [], b => if all = false ∧ deadB b.state = true then ([], 0) else ([b], 0)
  | g :: gs, b =>
    if isM g = false then (if (nextB b g 0).2 ≠ 0 then ([], (nextB b g 0).2) else evG all ch gs (nextB b g 0).1)
    else evC (subG all (evG all ch gs) b g) (ch b.outs.length)
theorem evG_step {gs : List Gt} {i : Nat} (hi : i < gs.length) (all : Bool) (ch : Nat → List Int) (b : Br) : evG all ch (gs.drop i) b =
    if isM gs[i] = false then (if (nextB b gs[i] 0).2 ≠ 0 then ([], (nextB b gs[i] 0).2) else evG all ch (gs.drop (i + 1)) (nextB b gs[i] 0).1)
    else evC (subG all (evG all ch (gs.drop (i + 1))) b gs[i]) (ch b.outs.length) := by
  rw [List.drop_eq_getElem_cons hi]
  rfl
def br0 : Br := ⟨[], 0, []⟩
def ysOf (p : List Br × Int) : List (Br × Int) := (p.1.map fun b => (b, (0 : Int))) ++ if p.2 ≠ 0 then [(br0, p.2)] else []
def BrR (y : Br × Int) (x : List Value) (H : PH) : Prop := ∃ c, x = [.agg ⟨c⟩, .int .i64 y.2] ∧ BrC H y.1 c
theorem BrC.zero (H : PH) : BrC H br0 [.slice none 0 0, .int .i64 0, .slice none 0 0] := ⟨_, _, rfl, IntsC.nil H, nilV H⟩
theorem ysOf_pre (A : List Br) (X : List Br × Int) : ysOf (A ++ X.1, X.2) = (A.map fun b => (b, (0 : Int))) ++ ysOf X := by
  unfold ysOf
  rw [List.map_append, List.append_assoc]
theorem ysOf_sub (sub : Int → List Br × Int) (o : Int) (os : List Int) : ∃ T, ysOf (evC sub (o :: os)) = ysOf (sub o) ++ T := by
  unfold evC
  by_cases h : (sub o).2 ≠ 0
  · rw [if_pos h]; exact ⟨[], by rw [List.append_nil]⟩
  · rw [if_neg h, ysOf_pre]
    have : ysOf (sub o) = (sub o).1.map fun b => (b, (0 : Int)) := by unfold ysOf; rw [if_neg h, List.append_nil]
    rw [this]
    exact ⟨_, rfl⟩
theorem get_pre {α : Type} {A B : List α} {j : Nat} {y : α} (h : B[j]? = some y) : (A ++ B)[A.length + j]? = some y := by
  rw [List.getElem?_append_right (by omega), show A.length + j - A.length = j by omega]
  exact h
theorem get_left {α : Type} {A B : List α} {j : Nat} {y : α} (h : A[j]? = some y) : (A ++ B)[j]? = some y := by
  rw [List.getElem?_append_left (List.getElem?_eq_some_iff.1 h).1]
  exact h
def OpsI (H : PH) (o : Obj) : Prop := ∃ es clk, o = .map ⟨es⟩ clk ∧ ∀ n : Int, Instr.findNow (.int .i64) (.int .i64 n) es 0 = some none ∨ ∃ j u, Instr.findNow (.int .i64) (.int .i64 n) es 0 = some (some (j, u)) ∧ MatH H u (OfR n).1
theorem OpsI.o {H O : PH} {b : Nat} {o : Obj} (h : OpsI H o) (hb : O b = some o) : OpsO H O b := by
  obtain ⟨es, clk, rfl, h⟩ := h
  exact ⟨es, clk, hb, h⟩
theorem OpsO.i {H O : PH} {b : Nat} (h : OpsO H O b) : ∃ o, O b = some o ∧ OpsI H o := by
  obtain ⟨es, clk, hb, h⟩ := h
  exact ⟨_, hb, es, clk, rfl, h⟩
theorem OpsI.up {H H' : PH} {o : Obj} (h : OpsI H o) (hs : Sub H H') : OpsI H' o := by
  obtain ⟨es, clk, rfl, h⟩ := h
  refine ⟨es, clk, rfl, fun n => (h n).imp id ?_⟩
  rintro ⟨j, u, h3, h4⟩
  exact ⟨j, u, h3, h4.up hs⟩
def andNI (a b : Int) : Int := IntKind.i64.wrap (BitVec.ofInt IntKind.i64.bits a &&& ~~~ BitVec.ofInt IntKind.i64.bits b).toNat
theorem setB_all : ∀ bits < 256, ∀ k < 8, ∀ o < 2, orI (andNI (bits : Nat) (shlI 1 (k : Nat))) (shlI (o : Nat) (k : Nat)) = setBR (bits : Nat) (k : Nat) (o : Nat) := by decide +kernel
theorem setB_in : ∀ m < 9, ∀ bits < 2 ^ m, ∀ k < m, ∀ o < 2, 0 ≤ setBR (bits : Nat) (k : Nat) (o : Nat) ∧ setBR (bits : Nat) (k : Nat) (o : Nat) < (2 ^ m : Nat) := by decide +kernel
theorem Cl.pre {P : Program} {f : FuncId} {args : List Value} {H M H' M' : PH} {Q : Value → PH → PH → Prop} (r : Repart H M H' M') (h : Cl P f args H' M' Q) : Cl P f args H M Q := by
  unfold Cl at *
  have hm' : ∀ n, M n = none → M' n = none := fun n hm => by
    cases e : M' n with
    | none => rfl
    | some o => rw [r.own n o e] at hm; cases hm
  refine ⟨h.1, fun w hH hM hd => (h.2 w (fun n o hn => (r.from_ n o hn).elim (hH n o) (hM n o)) (In.sub hM r.own) r.dis).mono ?_⟩
  rintro e w' ⟨v, H'', M'', he, p, hq⟩
  refine ⟨v, H'', M'', he, ⟨r.sub.trans p.sub, p.inH, p.inM, p.dis, fun n hn hm => ?_, p.frm.mono fun n hn hm => hm' n hm⟩, hq⟩
  obtain ⟨h1, h2⟩ := p.old n hn (hm' n hm)
  refine ⟨h1.trans ?_, h2⟩
  cases e : H' n with
  | some o =>
    rcases r.from_ n o e with h | h
    · exact h.symm
    · rw [hm] at h; cases h
  | none =>
    cases e2 : H n with
    | none => rfl
    | some o => rw [r.sub n o e2] at e; cases e
end Go.Proofs.YtmhnalikebkhjaaGreatDoor


namespace Go.Proofs.YtmhnalikebkhjaaGreatDoor
open Go.Proofs.YtmhnalikebkhjaaGreatDoor.X Go.Proofs.YtmhnalikebkhjaaGreatDoor.X.PH
set_option maxRecDepth 100000

theorem one_mul_L {x : P4 × Int} (h : IsL x) : MulR oneN x = (x, 0) := by
  obtain ⟨e, _⟩ := Mul_fits (x := oneN) (y := x) (by decide) h.ok
  have ep : pz oneN.1 x.1 = x.1 := by
    unfold pz oneN
    apply P4.ext' <;> dsimp only <;> omega
  have ek : oneN.2 + x.2 = x.2 := by
    show (0 : Int) + x.2 = x.2
    omega
  rw [e, ep, ek]
  unfold fitsR
  rw [h.form, ← checkF_checkR, h.ok, if_neg (by simp)]
theorem dotP_one {x : P4 × Int} (h : IsL x) : dotP [(oneN, x)] = (x, 0) := by
  have e := dotP_snoc [] (oneN, x)
  rw [List.nil_append] at e
  rw [e, if_pos (show (dotP []).2 = 0 from rfl)]
  unfold dotStepR
  dsimp only
  rw [one_mul_L h]
  simp
theorem colsX : ∀ i, i < 2 → colsL (opM 1) i 2 = [1 - i] ∧ entry (opM 1) i (1 - i) = oneN := by decide +kernel
def flX (g : Gt) (a : Nat) : Nat := cmbN (gwn g) (1 - (spl (gwn g) 1 a).1) 1 (spl (gwn g) 1 a).2
theorem vAt_mem {v : Vec} {b : Nat} (hb : b < v.length) : vAt v b ∈ v := by
  have : vAt v b = v[b] := by simp [vAt, List.getD_eq_getElem?_getD, hb]
  rw [this]
  exact List.getElem_mem hb
theorem flX_lt {g : Gt} {n : Nat} (hok : GateOK (xGate g) n) (hl : g.ws.length = 1) {a : Nat} (ha : a < 2 ^ n) : flX g a < 2 ^ n ∧ flX g (flX g a) = a := by
  obtain ⟨w1, w2, w3⟩ := hok.wn
  have hn := hok.n6
  have h6 : 2 ^ n ≤ 2 ^ 6 := Nat.pow_le_pow_right (by decide) hn
  have w1 : ∀ j, gwn g j < 6 := w1
  have hd : ∀ a b, a < b → b < 1 → gwn g a ≠ gwn g b := fun a b h1 h2 => by omega
  have hwn : ∀ j, j < 1 → gwn g j < n := fun j hj => (w2 j (by show j < g.ws.length; omega)).1
  obtain ⟨s1, s2⟩ := spl_lt (gwn g) w1 1 a (by omega)
  have hrn := spl_le (gwn g) w1 hd hn ha
  have hz := spl_clear (gwn g) w1 hd (show a < 64 by omega)
  refine ⟨cmb_lt _ _ 1 _ hrn fun j hj => hwn j hj, ?_⟩
  have e : spl (gwn g) 1 (flX g a) = (1 - (spl (gwn g) 1 a).1, (spl (gwn g) 1 a).2) := spl_cmb (gwn g) w1 (by decide) hd s2 (by omega) hz
  have e2 : flX g (flX g a) = cmbN (gwn g) (1 - (spl (gwn g) 1 (flX g a)).1) 1 (spl (gwn g) 1 (flX g a)).2 := rfl
  rw [e2, e]
  dsimp only
  rw [show 1 - (1 - (spl (gwn g) 1 a).1) = (spl (gwn g) 1 a).1 by omega]
  exact cmb_spl (gwn g) w1 (by decide) hd (by omega)
theorem rowXg {v : Vec} {g : Gt} {n : Nat} (hok : GateOK (xGate g) n) (hl : g.ws.length = 1) (hv : v.length = 2 ^ n) (hL : ∀ x ∈ v, IsL x) {a : Nat} (ha : a < v.length) :
    rowG v (xGate g) a = (vAt v (flX g a), 0) := by
  have h1 : rowG v (xGate g) a = dotP (rowL (opM 1) (gwn g) 1 v a 2) := by
    show dotP (rowL (opM 1) (gwn g) g.ws.length v a (2 ^ g.ws.length)) = _
    rw [hl]
  have w1 : ∀ j, gwn g j < 6 := hok.wn.1
  have hn := hok.n6
  have h6 : 2 ^ n ≤ 2 ^ 6 := Nat.pow_le_pow_right (by decide) hn
  obtain ⟨s1, s2⟩ := spl_lt (gwn g) w1 1 a (by omega)
  obtain ⟨e1, e2⟩ := colsX (spl (gwn g) 1 a).1 (by omega)
  rw [h1]
  unfold rowL
  rw [e1, List.map_cons, List.map_nil, e2]
  exact dotP_one (hL _ (vAt_mem (by rw [hv]; exact (flX_lt hok hl (by omega)).1)))
theorem doneX {v : Vec} {g : Gt} {n : Nat} (hok : GateOK (xGate g) n) (hl : g.ws.length = 1) (hv : v.length = 2 ^ n) (hL : ∀ x ∈ v, IsL x) : doneG v (xGate g) = ((List.range v.length).map fun a => vAt v (flX g a), 0) := by
  rw [doneG_good fun a ha => by rw [rowXg hok hl hv hL ha]]
  unfold outP
  congr 1
  apply List.map_congr_left
  intro a ha
  rw [rowXg hok hl hv hL (List.mem_range.1 ha)]
theorem dead_iff {v : Vec} (hL : ∀ x ∈ v, IsL x) : deadB v = true ↔ ∀ a, a < v.length → vAt v a = (P4.zero, 0) := by
  rw [dead_eq hL, List.all_eq_true]
  constructor
  · intro h a ha
    exact eqN_iff.1 (h _ (vAt_mem ha))
  · intro h x hx
    obtain ⟨a, ha, rfl⟩ := List.mem_iff_getElem.1 hx
    have := h a ha
    have e : vAt v a = v[a] := by simp [vAt, List.getD_eq_getElem?_getD, ha]
    rw [← e]
    exact eqN_iff.2 this
theorem deadX {v : Vec} {g : Gt} {n : Nat} (hok : GateOK (xGate g) n) (hl : g.ws.length = 1) (hv : v.length = 2 ^ n) (hL : ∀ x ∈ v, IsL x) : deadB (doneG v (xGate g)).1 = deadB v := by
  have e := doneX hok hl hv hL
  have hL2 : ∀ x ∈ (doneG v (xGate g)).1, IsL x := done_good (by rw [e])
  rw [Bool.eq_iff_iff, dead_iff hL2, dead_iff hL, e]
  dsimp only
  have hat : ∀ a, a < v.length → vAt ((List.range v.length).map fun a => vAt v (flX g a)) a = vAt v (flX g a) := fun a ha => by
    simp [vAt, List.getD_eq_getElem?_getD, ha]
  rw [List.length_map, List.length_range]
  constructor
  · intro h a ha
    obtain ⟨f1, f2⟩ := flX_lt hok hl (a := a) (by omega)
    have := h (flX g a) (by omega)
    rw [hat _ (by omega), f2] at this
    exact this
  · intro h a ha
    rw [hat a ha]
    exact h _ (by rw [hv]; exact (flX_lt hok hl (by omega)).1)
theorem next_err {b : Br} {g : Gt} {o : Int} {n m i : Nat} (hg : RGate g n m) (hM : isM g = true) (hb : BrOK b n i) : (nextB b g o).2 = 0 := by
  unfold isM at hM
  have hk : g.kind = 13 ∨ g.kind = 14 := by simpa using hM
  obtain ⟨h1, _, _, hx⟩ := hg.one hk
  unfold nextB
  by_cases h13 : g.kind = 13
  · rw [if_pos h13]
  rw [if_neg h13]
  rw [if_pos (hk.resolve_left h13)]
  split
  · rw [doneX hx h1 (by rw [kept_len]; exact hb.len) (kept_good hb.chk _ _)]
  · rfl
theorem next_dead {b : Br} {g : Gt} {o : Int} {n m i : Nat} (hg : RGate g n m) (hM : isM g = true) (hb : BrOK b n i) : deadB (nextB b g o).1.state = deadB (keptV b.state (wire0 g) o) := by
  unfold isM at hM
  have hk : g.kind = 13 ∨ g.kind = 14 := by simpa using hM
  obtain ⟨h1, _, _, hx⟩ := hg.one hk
  unfold nextB
  by_cases h13 : g.kind = 13
  · rw [if_pos h13]
  rw [if_neg h13]
  rw [if_pos (hk.resolve_left h13)]
  split
  · exact deadX hx h1 (by rw [kept_len]; exact hb.len) (kept_good hb.chk _ _)
  · rfl
theorem runB_evG {n m : Nat} : ∀ (gs : List Gt) (b : Br) (i : Nat), (∀ g ∈ gs, RGate g n m) → BrOK b n i → (evG false (fun _ => [0, 1]) gs b).2 = (runB gs b).2 ∧ ((runB gs b).2 = 0 → (evG false (fun _ => [0, 1]) gs b).1 = (runB gs b).1)
  | [], b, i, _, _ => by
    unfold evG runB
    by_cases h : deadB b.state = true
    · rw [if_pos ⟨rfl, h⟩, if_pos h]; exact ⟨rfl, fun _ => rfl⟩
    · rw [if_neg (fun k => h k.2), if_neg h]; exact ⟨rfl, fun _ => rfl⟩
  | g :: gs, b, i, hgs, hb => by
    have hg := hgs g (List.mem_cons_self ..)
    have hgs' : ∀ g ∈ gs, RGate g n m := fun g' h => hgs g' (List.mem_cons_of_mem _ h)
    unfold evG runB
    by_cases hM : isM g = false
    · rw [if_pos hM, if_pos hM]
      by_cases he : (nextB b g 0).2 ≠ 0
      · rw [if_pos he, if_pos he]; exact ⟨rfl, fun _ => rfl⟩
      · rw [if_neg he, if_neg he]
        exact runB_evG gs _ (i + 1) hgs' (hb.next (by simpa using he))
    · rw [if_neg hM, if_neg hM]
      have hM : isM g = true := by simpa using hM
      have hs : ∀ o, (subG false (evG false (fun _ => [0, 1]) gs) b g o).2 = (subR (runB gs) b g o).2 ∧ ((subR (runB gs) b g o).2 = 0 → (subG false (evG false (fun _ => [0, 1]) gs) b g o).1 = (subR (runB gs) b g o).1) := fun o => by
        have he : (nextB b g o).2 = 0 := next_err hg hM hb
        unfold subG subR
        rw [if_neg (show ¬ (nextB b g o).2 ≠ 0 by rw [he]; simp), next_dead hg hM hb]
        by_cases hd : deadB (keptV b.state (wire0 g) o) = true
        · rw [if_pos ⟨rfl, hd⟩, if_pos hd]; exact ⟨rfl, fun _ => rfl⟩
        · rw [if_neg (fun k => hd k.2), if_neg hd]
          exact runB_evG gs _ (i + 1) hgs' (hb.next he)
      obtain ⟨a1, a2⟩ := hs 0
      obtain ⟨b1, b2⟩ := hs 1
      unfold evC evC evC
      by_cases h0 : (subR (runB gs) b g 0).2 ≠ 0
      · rw [if_pos (by rw [a1]; exact h0), if_pos h0]
        exact ⟨a1, fun h => absurd h h0⟩
      rw [if_neg (by rw [a1]; exact h0), if_neg h0]
      have h0 : (subR (runB gs) b g 0).2 = 0 := by simpa using h0
      by_cases h1 : (subR (runB gs) b g 1).2 ≠ 0
      · rw [if_pos (by rw [b1]; exact h1), if_pos h1]
        exact ⟨b1, fun h => absurd h h1⟩
      rw [if_neg (by rw [b1]; exact h1), if_neg h1]
      have h1 : (subR (runB gs) b g 1).2 = 0 := by simpa using h1
      refine ⟨rfl, fun _ => ?_⟩
      dsimp only
      rw [a2 h0, b2 h1, List.append_nil]
end Go.Proofs.YtmhnalikebkhjaaGreatDoor


namespace Go.Proofs.YtmhnalikebkhjaaGreatDoor
open Go.Proofs.YtmhnalikebkhjaaGreatDoor.X Go.Proofs.YtmhnalikebkhjaaGreatDoor.X.PH
set_option maxRecDepth 100000

def stepsB (l : List Int) : List Gt → Br → Br × Int
  | [], b => (b, 0)
  | g :: gs, b => if (nextB b g (l.getD b.outs.length 0)).2 ≠ 0 then (br0, (nextB b g (l.getD b.outs.length 0)).2) else stepsB l gs (nextB b g (l.getD b.outs.length 0)).1
theorem stepsB_at {gs : List Gt} {i : Nat} (hi : i < gs.length) (l : List Int) (b : Br) : stepsB l (gs.drop i) b =
    if (nextB b gs[i] (l.getD b.outs.length 0)).2 ≠ 0 then (br0, (nextB b gs[i] (l.getD b.outs.length 0)).2) else stepsB l (gs.drop (i + 1)) (nextB b gs[i] (l.getD b.outs.length 0)).1 := by
  rw [List.drop_eq_getElem_cons hi]
  rfl
def is01 (o : Int) : Bool := (o == 0) || (o == 1)
def alongR (c : Ct) (v : Vec) (l : List Int) : Br × Int :=
  if beginErr c v ≠ 0 then (br0, beginErr c v)
  else if l.length ≠ foundN c.gates then (br0, 2)
  else if l.all is01 = false then (br0, 3)
  else if (stepsB l c.gates (startB v)).2 ≠ 0 then (br0, (stepsB l c.gates (startB v)).2)
  else if deadB (stepsB l c.gates (startB v)).1.state = true then (br0, 6) else ((stepsB l c.gates (startB v)).1, 0)
theorem next_un {b : Br} {g : Gt} (h : isM g = false) (o : Int) : nextB b g o = nextB b g 0 := by
  unfold isM at h
  have h13 : ¬ g.kind = 13 := fun e => by rw [e] at h; simp at h
  have h14 : ¬ g.kind = 14 := fun e => by rw [e] at h; simp at h
  unfold nextB
  rw [if_neg h13, if_neg h14, if_neg h13, if_neg h14]
theorem evC_one {sub : Int → List Br × Int} {o : Int} : evC sub [o] = sub o := by
  unfold evC evC
  split
  · rfl
  · rename_i h
    have h : (sub o).2 = 0 := by simpa using h
    exact Prod.ext (List.append_nil _) h.symm
theorem evG_along {n m : Nat} (l : List Int) : ∀ (gs : List Gt) (b : Br) (i : Nat), (∀ g ∈ gs, RGate g n m) → BrOK b n i → evG true (fun k => [l.getD k 0]) gs b = if (stepsB l gs b).2 ≠ 0 then ([], (stepsB l gs b).2) else ([(stepsB l gs b).1], 0)
  | [], b, _, _, _ => by
    unfold evG stepsB
    simp
  | g :: gs, b, i, hgs, hb => by
    have hg := hgs g (List.mem_cons_self ..)
    have hgs' : ∀ g ∈ gs, RGate g n m := fun g' h => hgs g' (List.mem_cons_of_mem _ h)
    unfold evG stepsB
    by_cases hM : isM g = false
    · rw [if_pos hM, next_un hM (l.getD b.outs.length 0)]
      by_cases he : (nextB b g 0).2 ≠ 0
      · rw [if_pos he, if_pos he, if_pos he]
      · rw [if_neg he, if_neg he]
        exact evG_along l gs _ (i + 1) hgs' (hb.next (by simpa using he))
    · rw [if_neg hM, evC_one]
      have he : (nextB b g (l.getD b.outs.length 0)).2 = 0 := next_err hg (by simpa using hM) hb
      unfold subG
      rw [if_neg (by simp), if_neg (show ¬ (nextB b g (l.getD b.outs.length 0)).2 ≠ 0 by rw [he]; simp)]
      exact evG_along l gs _ (i + 1) hgs' (hb.next he)
theorem next_outs {b : Br} {g : Gt} {o : Int} (h : isM g = true) : (nextB b g o).1.outs = b.outs ++ [o] := by
  unfold nextB isM at *
  by_cases h1 : g.kind = 13
  · rw [if_pos h1]
  · have h2 : g.kind = 14 := by simpa [h1] using h
    rw [if_neg h1, if_pos h2]
    split <;> rfl
theorem next_outs_un {b : Br} {g : Gt} {o : Int} (h : isM g = false) : (nextB b g o).1.outs = b.outs := by
  unfold isM at h
  have h13 : ¬ g.kind = 13 := fun e => by rw [e] at h; simp at h
  have h14 : ¬ g.kind = 14 := fun e => by rw [e] at h; simp at h
  unfold nextB
  rw [if_neg h13, if_neg h14]
  split <;> rfl
/-- What was found is what was asked for. -/
theorem steps_outs (l : List Int) : ∀ (gs : List Gt) (b : Br) (k : Nat), b.outs = l.take k → k + foundN gs = l.length → (stepsB l gs b).2 = 0 → (stepsB l gs b).1.outs = l
  | [], b, k, hb, hk, _ => by
    show b.outs = l
    rw [hb, show k = l.length by simpa [foundN] using hk, List.take_length]
  | g :: gs, b, k, hb, hk, he => by
    rw [foundN_cons] at hk
    unfold stepsB at he ⊢
    have hkl : k ≤ l.length := by omega
    have hbl : b.outs.length = k := by rw [hb, List.length_take]; omega
    by_cases hn : (nextB b g (l.getD b.outs.length 0)).2 ≠ 0
    · rw [if_pos hn] at he; exact absurd he hn
    rw [if_neg hn] at he ⊢
    by_cases hM : isM g = true
    · rw [if_pos hM] at hk
      refine steps_outs l gs _ (k + 1) ?_ (by omega) he
      rw [next_outs hM, hbl, hb, List.take_succ_eq_append_getElem (show k < l.length by omega), List.getD_eq_getElem?_getD, List.getElem?_eq_getElem (show k < l.length by omega)]
      rfl
    · rw [if_neg hM] at hk
      exact steps_outs l gs _ k (by rw [next_outs_un (by simpa using hM)]; exact hb) (by omega) he
/-- Bits stay within what there are. -/
def bitOK (m : Nat) (b : Br) : Prop := 0 ≤ b.bits ∧ b.bits < (2 ^ m : Nat)
theorem next_bit {b : Br} {g : Gt} {o : Int} {n m : Nat} (hg : RGate g n m) (h : bitOK m b) (ho : o = 0 ∨ o = 1) : bitOK m (nextB b g o).1 := by
  unfold nextB
  split
  · rename_i hk
    obtain ⟨b0, b1⟩ := hg.bit hk
    obtain ⟨h0, h1⟩ := h
    have h8 := hg.b8
    have := setB_in m (by omega) b.bits.toNat (by omega) g.bit.toNat (by omega) o.toNat (by omega)
    rw [show ((b.bits.toNat : Nat) : Int) = b.bits by omega, show ((g.bit.toNat : Nat) : Int) = g.bit by omega, show ((o.toNat : Nat) : Int) = o by omega] at this
    exact this
  · split
    · split
      · exact h
      · exact h
    · split
      · exact h
      · exact h
end Go.Proofs.YtmhnalikebkhjaaGreatDoor


namespace Go.Proofs.YtmhnalikebkhjaaGreatDoor
open Go.Proofs.YtmhnalikebkhjaaGreatDoor.X Go.Proofs.YtmhnalikebkhjaaGreatDoor.X.PH
set_option maxRecDepth 100000

structure PathOK (l os : List Int) : Prop where
  len : l.length = 8
  le : os.length ≤ 8
  eq : l.take os.length = os
theorem PathOK.next {l os : List Int} (h : PathOK l os) (hlt : os.length < 8) (o : Int) : PathOK (l.set os.length o) (os ++ [o]) := by
  refine ⟨by rw [List.length_set]; exact h.len, by rw [List.length_append]; exact hlt, ?_⟩
  have hl := h.len
  rw [List.length_append, List.length_singleton, List.take_succ_eq_append_getElem (by rw [List.length_set]; omega), List.getElem_set_self, List.take_set_of_le (Nat.le_refl _), h.eq]
def adr (b : Nat) : Value := .pointer (some ⟨b, 0, none⟩)
structure RunH (H : PH) (l rb yb cb : Nat) (c : Ct) (gs chf : Value) (bm : Nat) (all : Bool) (ch : Nat → List Int) : Prop where
  run : ∃ t fr, H rb = some (.cells ⟨runCells c gs bm chf all⟩ t fr)
  yl : ∃ t fr, H yb = some (.cells ⟨[.func (.yield l) #[] #[]]⟩ t fr)
  cl : ∃ t fr, H cb = some (.cells ⟨[.func (.func 104) #[] #[adr rb, adr yb, adr cb]]⟩ t fr)
  gates : GatesH H gs c.gates
  cho : ∀ lp os, PathOK lp os → os.length < foundN c.gates → Does Tryz.prog H chf [pv lp os.length] fun r H' => IntsH H' r (ch os.length)
theorem RunH.up {H H' : PH} {l rb yb cb : Nat} {c : Ct} {gs chf : Value} {bm : Nat} {all : Bool} {ch : Nat → List Int} (h : RunH H l rb yb cb c gs chf bm all ch) (hs : Sub H H') : RunH H' l rb yb cb c gs chf bm all ch := by
  obtain ⟨⟨t1, f1, h1⟩, ⟨t2, f2, h2⟩, ⟨t3, f3, h3⟩, h4, h5⟩ := h
  exact ⟨⟨t1, f1, hs _ _ h1⟩, ⟨t2, f2, hs _ _ h2⟩, ⟨t3, f3, hs _ _ h3⟩, h4.up hs, fun lp os a b => (h5 lp os a b).up hs⟩
theorem evC_cons (sub : Int → List Br × Int) (o : Int) (os : List Int) : evC sub (o :: os) = if (sub o).2 ≠ 0 then sub o else ((sub o).1 ++ (evC sub os).1, (evC sub os).2) := rfl
theorem Cl.args {P : Program} {f : FuncId} {l l' : List Value} {H M : PH} {Q : Value → PH → PH → Prop} (h : l = l') (hc : Cl P f l H M Q) : Cl P f l' H M Q := h ▸ hc
theorem opsK_one {Γ : TypeId → TI} {P : Program} {pol : Tmp → Pol} {ops rest : List Oper} {x : Oper} {s : S} {K : S → Prop}
    (h : ∀ K1 : S → Prop, (∀ s1, opsK Γ P pol ops rest s1 K = K1 s1) → opsK Γ P pol ops [x] s K1) : opsK Γ P pol ops (x :: rest) s K := by
  have := h _ fun _ => rfl
  obtain ⟨d, o, t, p, a, g⟩ := x
  obtain ⟨env, loc, H, O⟩ := s
  exact this
theorem overK8 {a0 a1 a2 a3 a4 a5 a6 a7 o : Int} {m : Value} {n : Nat} {K : List Value → Prop} (hn : n < 8)
    (h : ∀ x0 x1 x2 x3 x4 x5 x6 x7, [a0, a1, a2, a3, a4, a5, a6, a7].set n o = [x0, x1, x2, x3, x4, x5, x6, x7] → K [.int .i64 x0, .int .i64 x1, .int .i64 x2, .int .i64 x3, .int .i64 x4, .int .i64 x5, .int .i64 x6, .int .i64 x7, m]) :
    overK [.int .i64 a0, .int .i64 a1, .int .i64 a2, .int .i64 a3, .int .i64 a4, .int .i64 a5, .int .i64 a6, .int .i64 a7, m] n [.int .i64 o] K := by
  rcases (show n = 0 ∨ n = 1 ∨ n = 2 ∨ n = 3 ∨ n = 4 ∨ n = 5 ∨ n = 6 ∨ n = 7 by omega) with rfl | rfl | rfl | rfl | rfl | rfl | rfl | rfl
  all_goals exact h _ _ _ _ _ _ _ _ rfl
theorem not_true {b : Bool} (h : (!b) = true) : b = false := by cases b <;> simp_all
theorem neq_of {a b : Int} (h : (a != b) = true) : a ≠ b := by simpa using h
theorem eq_of_neq {a b : Int} (h : (a != b) = false) : a = b := by simpa using h
theorem ne_of_beq_false {a b : Int} (h : (a == b) = false) : a ≠ b := by simpa using h
theorem bit_or : ∀ bits < 256, ∀ k < 8, andI (shrI (bits : Nat) (k : Nat)) 1 = 0 ∨ andI (shrI (bits : Nat) (k : Nat)) 1 = 1 := by decide +kernel
theorem onB_zero {g : Gt} {bits : Int} (h : g.cond = 0) : onB g bits = true := by
  unfold onB
  rw [h]
  rfl
theorem onB_no {g : Gt} {bits : Int} (h : g.cond > 0) (_ : g.cond ≤ 8) (hz : andI (shrI bits (g.cond - 1)) 1 = 0) : ¬ onB g bits = true := by
  unfold onB bitB
  rw [hz, beq_eq_false_iff_ne.2 (show g.cond ≠ 0 by omega)]
  decide
theorem onB_yes {g : Gt} {m : Nat} {b : Br} (h : g.cond > 0) (hb : bitOK m b) (h8 : g.cond ≤ m) (hm : m ≤ 8) (hz : andI (shrI b.bits (g.cond - 1)) 1 ≠ 0) : onB g b.bits = true := by
  obtain ⟨h0, h1⟩ := hb
  have p8 : 2 ^ m ≤ 2 ^ 8 := Nat.pow_le_pow_right (by decide) hm
  have := bit_or b.bits.toNat (by omega) (g.cond - 1).toNat (by omega)
  rw [show ((b.bits.toNat : Nat) : Int) = b.bits by omega, show (((g.cond - 1).toNat : Nat) : Int) = g.cond - 1 by omega] at this
  have e := this.resolve_left hz
  unfold onB bitB
  rw [e, Bool.or_eq_true]
  exact .inr rfl
theorem setB_eq {g : Gt} {n m : Nat} {b : Br} {o : Int} (hg : RGate g n m) (hk : g.kind = 13) (hb : bitOK m b) (ho : o = 0 ∨ o = 1) : orI (andNI b.bits (shlI 1 g.bit)) (shlI o g.bit) = setBR b.bits g.bit o := by
  obtain ⟨b0, b1⟩ := hg.bit hk
  have h8 := hg.b8
  obtain ⟨h0, h1⟩ := hb
  have p8 : 2 ^ m ≤ 2 ^ 8 := Nat.pow_le_pow_right (by decide) h8
  have := setB_all b.bits.toNat (by omega) g.bit.toNat (by omega) o.toNat (by omega)
  rw [show ((b.bits.toNat : Nat) : Int) = b.bits by omega, show ((g.bit.toNat : Nat) : Int) = g.bit by omega, show ((o.toNat : Nat) : Int) = o by omega] at this
  exact this
end Go.Proofs.YtmhnalikebkhjaaGreatDoor


namespace Go.Proofs.YtmhnalikebkhjaaGreatDoor
open Go.Proofs.YtmhnalikebkhjaaGreatDoor.X Go.Proofs.YtmhnalikebkhjaaGreatDoor.X.PH
set_option maxRecDepth 100000

theorem OwnS.upS {O O' : PH} {sz : Nat} {t : TypeId} {v : Value} {xs : List (List Value)} (h : OwnS O sz t v xs) (hs : Sub O O') : OwnS O' sz t v xs := OwnS.keep h fun n _ hn => hs n _ hn
theorem own_new {H H' M' : PH} (hs : Sub H H') (hd : Dis H' M') : Sub M' (newH H (un H' M')) := fun n o hn => by
  have h1 : H' n = none := (hd n).resolve_right (by rw [hn]; simp)
  exact newH_some (fresh_of hs h1) (un_right hd hn)
/-- New numbers, new integers. -/
abbrev NumW (Hp H : PH) (v : Value) (l : Vec) : Prop := NumO (newH Hp H) v l
abbrev IntsW (Hp H : PH) (v : Value) (l : List Int) : Prop := IntsO (newH Hp H) v l
theorem NumW.up {Hp H H' : PH} {v : Value} {l : Vec} (h : NumW Hp H v l) (hs : Sub H H') : NumW Hp H' v l := OwnS.upS h (newH_up hs)
theorem NumW.base {Hp H1 H : PH} {v : Value} {l : Vec} (h : NumW H1 H v l) (hs : Sub Hp H1) : NumW Hp H v l := OwnS.upS h (newH_base hs)
theorem IntsW.up {Hp H H' : PH} {v : Value} {l : List Int} (h : IntsW Hp H v l) (hs : Sub H H') : IntsW Hp H' v l := OwnS.upS h (newH_up hs)
theorem IntsW.base {Hp H1 H : PH} {v : Value} {l : List Int} (h : IntsW H1 H v l) (hs : Sub Hp H1) : IntsW Hp H v l := OwnS.upS h (newH_base hs)
theorem NumW.num {Hp H : PH} {v : Value} {l : Vec} (h : NumW Hp H v l) : NumH H v l := by
  have := NumO.share (H := emp) h (fun n => .inl rfl)
  exact NumH.up this fun n o hn => by
    have : newH Hp H n = some o := by simpa [un, emp] using hn
    exact newH_sub _ _ n o this
theorem IntsW.c {Hp H : PH} {v : Value} {l : List Int} (h : IntsW Hp H v l) : IntsC H v l := by
  obtain ⟨h1, h2⟩ := h
  rcases h2 with ⟨rfl, h2⟩ | ⟨b, cap, sp, rfl, h2, h3, h4⟩
  · have : l = [] := by simpa using h2
    rw [this]
    exact IntsC.nil H
  · rw [List.length_map] at h3 ⊢
    refine ⟨some ⟨b, 0, none⟩, cap, rfl, h3, some ⟨b, 0, none⟩, cap, rfl, .inr ⟨b, 0, _, _, _, rfl, newH_sub _ _ _ _ h2, ?_⟩⟩
    rw [flat_oneI]
    simp
theorem c16w (l : List Int) (hlen : l.length ≤ 100000) (H : PH) (v : Value) (hv : IntsH H v l) : Cl Tryz.prog 12 [v] H emp fun r H' _ => IntsW H H' r l :=
  (c16 l hlen H v hv).repart fun _ _ _ hs hd h => ⟨_, _, .all hd, OwnS.upS h (own_new hs hd)⟩
theorem d79n (v : Vec) (w : Nat) (x : Int) (hv : v.length ≤ 64) (hw : w < 6) (H : PH) (u : Value) (hu : NumH H u v) : Cl Tryz.prog 79 [u, .int .i64 w, .int .i64 x] H emp fun r H' _ => NumW H H' r (keptV v w x) := by
  refine (d79x v w x hv hw H u hu).repart fun r H' M' hs hd h => ?_
  obtain ⟨b, rfl, hM⟩ := h
  have hn : NumO M' (.slice (some ⟨b, 0, none⟩) v.length v.length) (keptV v w x) := vec_own' hM (by rw [kept_len])
  exact ⟨_, _, .all hd, OwnS.upS hn (own_new hs hd)⟩
theorem d95n (v : Vec) (hlen : v.length < 1000000) (H : PH) (x : Value) (hx : NumH H x v) : Cl Tryz.prog 95 [x] H emp fun r H' _ => NumW H H' r (leastV v) :=
  (d95 v hlen H x hx).repart fun _ _ _ hs hd h => ⟨_, _, .all hd, OwnS.upS h (own_new hs hd)⟩
theorem d78n (v : Vec) (g : Gt) (n : Nat) (hok : GateOK g n) (hv : v.length = 2 ^ n) (b : Nat) (H O : PH) (o : Obj) (ho : O b = some o) (hops : OpsI H o) (x w : Value) (hx : NumH H x v) (hw : IntsC H w g.ws) : Cl Tryz.prog 78 [.map (some b), x, gv g w] H O fun r H' O' => (∃ u, r = .tuple #[u, .int .i64 (doneG v g).2] ∧ NumW H H' u (doneG v g).1) ∧ ∃ o', O' = ins O b o' ∧ OpsI H' o' := by
  refine (d78 v g n hok hv b H O (hops.o ho) x w hx hw).repart fun r H' O' hs hd h => ?_
  obtain ⟨u, ob, e, hu, hf, hops', hk⟩ := h
  obtain ⟨o', eo, hi⟩ := hops'.i
  have hsub : Sub (ins O b o') O' := fun n q hn => by
    by_cases hnb : n = b
    · subst hnb; rw [ins_same] at hn; cases hn; exact eo
    · rw [ins_ne _ _ hnb] at hn; exact hk n q hn hnb
  obtain ⟨hu1, hu2⟩ := hu
  rcases hu2 with ⟨e1, e2, e3⟩ | ⟨bw, cap, sp, e1, e2, hO, q1, q2⟩
  · refine ⟨H', ins O b o', ⟨Sub.refl _, hsub, fun _ _ h => .inl h, fun n => ?_⟩, ⟨u, e, hu1, .inl ⟨e2, e3⟩⟩, o', rfl, hi⟩
    cases hh : ins O b o' n with
    | none => exact .inr rfl
    | some q => exact .inl ((hd n).resolve_right (by rw [hsub n q hh]; simp))
  · have hbw := hf bw e1
    have hne : bw ≠ b := fun e => by rw [e, ho] at hbw; cases hbw
    have hH' : H' bw = none := (hd bw).resolve_right (by rw [hO]; simp)
    have rp := Repart.one hd hO
    refine ⟨_, ins O b o', ⟨rp.sub, hsub, rp.from_, fun n => ?_⟩, ⟨u, e, hu1, .inr ⟨bw, cap, sp, e2, newH_some (fresh_of hs hH') (ins_same _ _ _), q1, q2⟩⟩, o', rfl, hi.up rp.sub⟩
    cases hh : ins O b o' n with
    | none => exact .inr rfl
    | some q =>
      have hnb : n ≠ bw := fun e => by
        subst e
        rw [ins_ne _ _ hne, hbw] at hh
        cases hh
      refine .inl ?_
      rw [ins_ne _ _ hnb]
      exact (hd n).resolve_right (by rw [hsub n q hh]; simp)
theorem d105n (l os : List Int) (hl : l.length = 8) (ho : os.length ≤ 8) (e : l.take os.length = os) (H : PH) : Cl Tryz.prog 105 [pv l os.length] H emp fun r H' _ => IntsW H H' r os := by
  obtain ⟨a0, a1, a2, a3, a4, a5, a6, a7, rfl⟩ := eight hl
  refine Cl_of (pol := (fun | 1 => .imm | _ => .loc)) Γok Tryz.func105 (by kernel_rfl) rfl ?_
  conv => whnf
  intro b1 hb1 hO1
  conv => whnf
  refine if_intro (fun h => ?_) (fun h => ?_)
  · conv => whnf
    have : os = [] := by
      have : (os.length : Int) = 0 := by simpa using h
      exact List.length_eq_zero_iff.1 (by omega)
    rw [this]
    exact ⟨by simp, .inl ⟨rfl, rfl⟩⟩
  conv => whnf
  refine dec_intro (show ((os.length : Int) ≤ ((8 : Nat) : Int)) by omega) ?_
  conv => whnf
  refine (c16w os (by omega) _ _ ⟨_, _, rfl, .inr ⟨b1, 0, _, _, _, rfl, ins_same _ _ _, ?_⟩⟩).use fun r Ha sa hr => ?_
  · show ([Value.int .i64 a0, .int .i64 a1, .int .i64 a2, .int .i64 a3, .int .i64 a4, .int .i64 a5, .int .i64 a6, .int .i64 a7, .int .i64 os.length].take _) = _
    have : ([Value.int .i64 a0, .int .i64 a1, .int .i64 a2, .int .i64 a3, .int .i64 a4, .int .i64 a5, .int .i64 a6, .int .i64 a7, .int .i64 os.length] : List Value) = ([a0, a1, a2, a3, a4, a5, a6, a7].map fun a => Value.int .i64 a) ++ [.int .i64 os.length] := rfl
    rw [this, List.take_append_of_le_length (by simp; exact ho), List.length_map, ← List.map_take, e]
  obtain ⟨_, hr⟩ := hr
  obtain ⟨rb, rc, rfl, _⟩ := IntsW.c hr
  conv => whnf
  exact IntsW.base hr (sub_ins H _ hb1)
/-- A branch, new since the last one. -/
def BrN (y : Br × Int) (x : List Value) (Hp H : PH) : Prop := ∃ ov sv, x = [.agg ⟨[ov, .int .i64 y.1.bits, sv]⟩, .int .i64 y.2] ∧ IntsW Hp H ov y.1.outs ∧ NumW Hp H sv y.1.state
theorem BrN.r {y : Br × Int} {x : List Value} {Hp H : PH} (h : BrN y x Hp H) : BrR y x H := by
  obtain ⟨ov, sv, e, h1, h3⟩ := h
  exact ⟨_, e, ov, sv, rfl, IntsW.c h1, NumW.num h3⟩
theorem nilW (Hp H : PH) : NumW Hp H (.slice none 0 0) [] := ⟨by simp, .inl ⟨rfl, rfl⟩⟩
theorem BrN.zero (e : Int) (Hp H : PH) : BrN (br0, e) [.agg ⟨[.slice none 0 0, .int .i64 0, .slice none 0 0]⟩, .int .i64 e] Hp H := ⟨_, _, rfl, ⟨by simp [br0], .inl ⟨rfl, rfl⟩⟩, nilW Hp H⟩
end Go.Proofs.YtmhnalikebkhjaaGreatDoor


namespace Go.Proofs.YtmhnalikebkhjaaGreatDoor
open Go.Proofs.YtmhnalikebkhjaaGreatDoor.X Go.Proofs.YtmhnalikebkhjaaGreatDoor.X.PH
set_option maxRecDepth 100000

def Q104n (J : Nat → PH → PH → PH → Prop) (Jx : PH → PH → Prop) (k0 : Nat) (E : List Br × Int) (r : Value) (H' M' : PH) : Prop :=
  (r = .bool true ∧ E.2 = 0 ∧ ∃ Hp, J (k0 + E.1.length) Hp H' M') ∨ (r = .bool false ∧ (Jx H' M' ∨ (E.2 ≠ 0 ∧ ∃ Hp, J (k0 + E.1.length + 1) Hp H' M')))
set_option maxHeartbeats 8000000 in
theorem d104n (c : Ct) (n m : Nat) (v0 : Vec) (hok : RunOK c v0 n m) (l rb yb cb : Nat) (gs chf : Value) (bm : Nat) (all : Bool) (ch : Nat → List Int) (hch : ∀ k, k < 8 → (ch k).length ≤ 2 ∧ ∀ o ∈ ch k, o = 0 ∨ o = 1) (ys : List (Br × Int)) (H0 : PH) (J : Nat → PH → PH → PH → Prop) (Jx : PH → PH → Prop)
    (up : ∀ k Hp H' H'' M', J k Hp H' M' → Sub H' H'' → J k Hp H'' M') (subp : ∀ k Hp H' M', J k Hp H' M' → Sub Hp H') (inv : ∀ k Hp H' M', J k Hp H' M' → ∃ o, M' bm = some o ∧ OpsI H' o) (chg : ∀ k Hp H' M' o, J k Hp H' M' → OpsI H' o → J k Hp H' (ins M' bm o))
    (hy : ∀ k y, ys[k]? = some y → ∀ x Hp H' M', Sub H0 H' → J k Hp H' M' → BrN y x Hp H' → Yl Tryz.prog l x H' M' fun v H'' M'' => (v = .bool true ∧ J (k + 1) H'' H'' M'') ∨ (v = .bool false ∧ Jx H'' M'')) :
    ∀ (r i : Nat), i + r = c.gates.length → ∀ (b : Br) (lp : List Int) (k0 : Nat) (Hp H M : PH) (sv : Value), Sub H0 H → J k0 Hp H M → RunH H l rb yb cb c gs chf bm all ch → BrOK b n i → bitOK m b → PathOK lp b.outs → b.outs.length + foundN (c.gates.drop i) ≤ foundN c.gates → NumW Hp H sv b.state → (∀ j y, (ysOf (evG all ch (c.gates.drop i) b))[j]? = some y → ys[k0 + j]? = some y) →
      Cl Tryz.prog 104 [.int .i64 i, .int .i64 b.bits, pv lp b.outs.length, sv, adr rb, adr yb, adr cb] H M fun r H' M' => Q104n J Jx k0 (evG all ch (c.gates.drop i) b) r H' M' := by
  intro r
  induction r using Nat.strongRecOn with
  | ind r ih =>
  intro i hir b lp k0 Hp H M sv hs0 hJ hR hb hbit hp hfd hsv hys
  obtain ⟨a0, a1, a2, a3, a4, a5, a6, a7, rfl⟩ := eight hp.len
  obtain ⟨svb, svc, rfl, _⟩ := NumW.num hsv
  obtain ⟨gb, gc, rfl⟩ := hR.gates.sl
  have hlen := hok.len
  have hfew := hok.few
  obtain ⟨p1, p2⟩ := pow6 hok.n6
  rw [show pv [a0, a1, a2, a3, a4, a5, a6, a7] b.outs.length = .agg ⟨[.int .i64 a0, .int .i64 a1, .int .i64 a2, .int .i64 a3, .int .i64 a4, .int .i64 a5, .int .i64 a6, .int .i64 a7, .int .i64 b.outs.length]⟩ from rfl]
  refine Cl_of (pol := polL) Γok Tryz.func104 (by kernel_rfl) rfl ?_
  conv => whnf
  intro b9
  conv => whnf
  refine W_loop (pol := polL) Γok (Nat × PH × PH × Br × Value) (fun z => i ≤ z.1 ∧ z.1 ≤ c.gates.length ∧ Sub H z.2.1 ∧ J k0 Hp z.2.1 z.2.2.1 ∧ BrOK z.2.2.2.1 n z.1 ∧ z.2.2.2.1.bits = b.bits ∧ z.2.2.2.1.outs = b.outs ∧ NumW Hp z.2.1 z.2.2.2.2 z.2.2.2.1.state ∧ b.outs.length + foundN (c.gates.drop z.1) ≤ foundN c.gates ∧ evG all ch (c.gates.drop i) b = evG all ch (c.gates.drop z.1) z.2.2.2.1) (fun z => c.gates.length - z.1) (fun z => [(12, .v (.int .i64 z.1)), (3, .v z.2.2.2.2)]) (fun _ => []) (fun z => z.2.1) (fun z => z.2.2.1) ⟨(i, H, M, b, .slice svb b.state.length svc), ⟨Nat.le_refl _, by dsimp only; omega, Sub.refl _, hJ, hb, rfl, rfl, hsv, hfd, rfl⟩, rfl, rfl, ?_⟩ ?_
  · conv => whnf
    repeat (refine ⟨rfl, ?_⟩; conv => whnf)
    exact trivial
  rintro ⟨j, Hj, Mj, bj, svv⟩ ⟨h1, h2, hsj, hJj, hbj, hbits, houts, hsvw, hfdj, hrun⟩
  dsimp only at h1 h2 hsj hJj hbj hbits houts hsvw hfdj hrun
  have hsvj := NumW.num hsvw
  obtain ⟨svb, svc, rfl, _⟩ := id hsvj
  have hRj := hR.up hsj
  obtain ⟨tr, fr, hrb⟩ := hRj.run
  obtain ⟨tyy, fy, hyb⟩ := hRj.yl
  have hyl := hy
  obtain ⟨tc, fc, hcb⟩ := hRj.cl
  have rdgs : ∀ O, Rd Hj O ⟨rb, 2, none⟩ 1 [.slice gb c.gates.length gc] := fun O => ⟨rfl, rfl, _, _, _, .inl hrb, rfl⟩
  have rdch : ∀ O, Rd Hj O ⟨rb, 4, none⟩ 1 [chf] := fun O => ⟨rfl, rfl, _, _, _, .inl hrb, rfl⟩
  have rdall : ∀ O, Rd Hj O ⟨rb, 5, none⟩ 1 [.bool all] := fun O => ⟨rfl, rfl, _, _, _, .inl hrb, rfl⟩
  have rdmap : ∀ O, Rd Hj O ⟨rb, 3, none⟩ 1 [.map (some bm)] := fun O => ⟨rfl, rfl, _, _, _, .inl hrb, rfl⟩
  conv => whnf
  refine ⟨_, rdgs _, ?_⟩
  conv => whnf
  refine if_intro (fun hcj => ?_) (fun hcj => ?_)
  · have hij : j < c.gates.length := by
      have := of_decide_eq_true hcj
      omega
    have hg1 := hok.gates _ (List.getElem_mem hij)
    rw [evG_step hij] at hrun
    obtain ⟨gbb, goff, w, wb, wc, rfl, hw, hrd, hwe⟩ := hRj.gates.rd hij
    subst hw
    conv => whnf
    refine ⟨_, rdgs _, ?_⟩
    conv => whnf
    refine dec_intro (by omega) ?_
    conv => whnf
    refine ⟨_, hrd Hj Mj (Sub.refl _), ?_⟩
    conv => whnf
    intro b13
    conv => whnf
    refine if_intro (fun h13 => ?_) (fun h13 => ?_)
    · conv => whnf
      refine if_intro (fun h14 => ?_) (fun h14 => ?_)
      · have hn13 : ¬ c.gates[j].kind = 13 := neq_of h13
        have hn14 : ¬ c.gates[j].kind = 14 := neq_of h14
        have hM : isM c.gates[j] = false := by
          unfold isM
          rw [beq_eq_false_iff_ne.2 hn13, beq_eq_false_iff_ne.2 hn14]
          rfl
        rw [if_pos hM] at hrun
        have hfd : foundN (c.gates.drop j) = 0 + foundN (c.gates.drop (j + 1)) := by
          rw [List.drop_eq_getElem_cons hij, foundN_cons, hM] <;> rfl
        obtain ⟨c0, c1⟩ := hg1.cond
        have hb8 := hg1.b8
        conv => whnf
        refine if_intro (fun hc => ?_) (fun hc => ?_)
        · have hc : c.gates[j].cond > 0 := of_decide_eq_true hc
          conv => whnf
          rw [wrap_id (n := c.gates[j].cond - 1) (by omega) (by omega)]
          refine dec_intro (by omega) ?_
          dsimp only [putK]
          refine setK_iff.2 ⟨by show 52 < 155; decide, ?_⟩
          refine opsK_one fun K1 hK1 => ?_
          conv => whnf
          generalize hav : IntKind.i64.wrap (BitVec.ofInt IntKind.i64.bits (b.bits.fdiv (2 ^ min (c.gates[j].cond - 1).toNat IntKind.i64.bits)) &&& BitVec.ofInt IntKind.i64.bits 1).toNat = av
          have hav : andI (shrI b.bits (c.gates[j].cond - 1)) 1 = av := hav
          rw [← hK1]
          clear hK1 K1
          refine opsK_one fun K1 hK1 => ?_
          conv => whnf
          generalize hbo : (av == 0) = bo
          rw [← hK1]
          clear hK1 K1
          refine opsK_one fun K1 hK1 => ?_
          conv => whnf
          rw [← hK1]
          clear hK1 K1
          rw [← hav] at hbo
          cases bo
          rotate_left
          · have hz := hbo
            have hon : ¬ onB c.gates[j] bj.bits = true := by
              rw [hbits]
              exact onB_no hc (by omega) (eq_of_beq hz)
            have enx : nextB bj c.gates[j] 0 = (bj, 0) := by unfold nextB; rw [if_neg hn13, if_neg hn14, if_neg hon]
            have hnx := hbj.next (g := c.gates[j]) (o := 0) (by rw [enx])
            rw [enx] at hnx hrun
            rw [if_neg (by simp)] at hrun
            conv => whnf
            refine ⟨(j + 1, Hj, Mj, bj, .slice svb bj.state.length svc), ⟨by dsimp only; omega, by dsimp only; omega, hsj, hJj, hnx, hbits, houts, hsvw, by dsimp only; omega, hrun⟩, by dsimp only; omega, ?_⟩
            refine ⟨rfl, rfl, ?_⟩
            conv => whnf
            repeat (refine ⟨rfl, ?_⟩; conv => whnf)
            refine ⟨by show En.v (.int .i64 (IntKind.i64.wrap (j + 1))) = _; rw [wrap_id (by omega) (by omega)] <;> rfl, ?_⟩
            conv => whnf
            repeat (refine ⟨rfl, ?_⟩; conv => whnf)
            exact trivial
          · have hon : onB c.gates[j] bj.bits = true := by
              rw [hbits]
              exact onB_yes hc hbit (by omega) (by omega) (ne_of_beq_false hbo)
            have enx : nextB bj c.gates[j] 0 = (⟨bj.outs, bj.bits, (doneG bj.state c.gates[j]).1⟩, (doneG bj.state c.gates[j]).2) := by unfold nextB; rw [if_neg hn13, if_neg hn14, if_pos hon]
            conv => whnf
            refine ⟨_, rdmap _, ?_⟩
            conv => whnf
            obtain ⟨ob, heb, hib⟩ := inv _ _ _ _ hJj
            refine (d78n bj.state c.gates[j] n (hg1.plain hn13 hn14) hbj.len bm _ _ ob heb hib _ _ hsvj hwe).mono fun r Hd Md sd hr3 => ?_
            obtain ⟨⟨u, rfl, hu⟩, o', rfl, hi'⟩ := hr3
            obtain ⟨ub, uc, rfl, _⟩ := NumW.num hu
            have hJd := chg _ _ _ _ _ (up _ _ _ _ _ hJj sd) hi'
            conv => whnf
            refine if_intro (fun he => ?_) (fun he => ?_)
            · have he : (doneG bj.state c.gates[j]).2 ≠ 0 := neq_of he
              have hE : evG all ch (c.gates.drop i) b = ([], (doneG bj.state c.gates[j]).2) := by rw [hrun, enx, if_pos he]
              conv => whnf
              refine ⟨_, Rd_up (Rd.anyO (O := emp) ⟨rfl, rfl, _, _, _, .inl hyb, rfl⟩) sd, ?_⟩
              conv => whnf
              refine (hy k0 (br0, (doneG bj.state c.gates[j]).2) (by have := hys 0 (br0, (doneG bj.state c.gates[j]).2) (by rw [hE]; unfold ysOf; rw [if_pos he] <;> rfl); exact this) _ _ _ _ (hs0.trans (hsj.trans sd)) hJd (BrN.zero _ _ _)).mono fun v H' M' hs hq => ?_
              rcases hq with ⟨rfl, hJ'⟩ | ⟨rfl, hX⟩
              · conv => whnf
                exact .inr ⟨rfl, .inr ⟨by rw [hE]; exact he, by rw [hE]; exact ⟨_, hJ'⟩⟩⟩
              · conv => whnf
                exact .inr ⟨rfl, .inl hX⟩
            have he : (doneG bj.state c.gates[j]).2 = 0 := eq_of_neq he
            rw [enx, if_neg (by rw [he]; decide)] at hrun
            have hnx := hbj.next (g := c.gates[j]) (o := 0) (by rw [enx]; exact he)
            rw [enx] at hnx
            conv => whnf
            refine ⟨(j + 1, Hd, _, (⟨bj.outs, bj.bits, (doneG bj.state c.gates[j]).1⟩ : Br), .slice ub (doneG bj.state c.gates[j]).1.length uc), ⟨by dsimp only; omega, by dsimp only; omega, hsj.trans sd, hJd, hnx, hbits, houts, NumW.base hu (subp _ _ _ _ hJj), by dsimp only; omega, hrun⟩, by dsimp only; omega, ?_⟩
            refine ⟨rfl, rfl, ?_⟩
            conv => whnf
            repeat (refine ⟨rfl, ?_⟩; conv => whnf)
            refine ⟨by show En.v (.int .i64 (IntKind.i64.wrap (j + 1))) = _; rw [wrap_id (by omega) (by omega)] <;> rfl, ?_⟩
            conv => whnf
            repeat (refine ⟨rfl, ?_⟩; conv => whnf)
            exact trivial
        · have hc : ¬ c.gates[j].cond > 0 := of_decide_eq_false hc
          have hon : onB c.gates[j] bj.bits = true := onB_zero (by omega)
          have enx : nextB bj c.gates[j] 0 = (⟨bj.outs, bj.bits, (doneG bj.state c.gates[j]).1⟩, (doneG bj.state c.gates[j]).2) := by unfold nextB; rw [if_neg hn13, if_neg hn14, if_pos hon]
          conv => whnf
          refine ⟨_, rdmap _, ?_⟩
          conv => whnf
          obtain ⟨ob, heb, hib⟩ := inv _ _ _ _ hJj
          refine (d78n bj.state c.gates[j] n (hg1.plain hn13 hn14) hbj.len bm _ _ ob heb hib _ _ hsvj hwe).mono fun r Hd Md sd hr3 => ?_
          obtain ⟨⟨u, rfl, hu⟩, o', rfl, hi'⟩ := hr3
          obtain ⟨ub, uc, rfl, _⟩ := NumW.num hu
          have hJd := chg _ _ _ _ _ (up _ _ _ _ _ hJj sd) hi'
          conv => whnf
          refine if_intro (fun he => ?_) (fun he => ?_)
          · have he : (doneG bj.state c.gates[j]).2 ≠ 0 := neq_of he
            have hE : evG all ch (c.gates.drop i) b = ([], (doneG bj.state c.gates[j]).2) := by rw [hrun, enx, if_pos he]
            conv => whnf
            refine ⟨_, Rd_up (Rd.anyO (O := emp) ⟨rfl, rfl, _, _, _, .inl hyb, rfl⟩) sd, ?_⟩
            conv => whnf
            refine (hy k0 (br0, (doneG bj.state c.gates[j]).2) (by have := hys 0 (br0, (doneG bj.state c.gates[j]).2) (by rw [hE]; unfold ysOf; rw [if_pos he] <;> rfl); exact this) _ _ _ _ (hs0.trans (hsj.trans sd)) hJd (BrN.zero _ _ _)).mono fun v H' M' hs hq => ?_
            rcases hq with ⟨rfl, hJ'⟩ | ⟨rfl, hX⟩
            · conv => whnf
              exact .inr ⟨rfl, .inr ⟨by rw [hE]; exact he, by rw [hE]; exact ⟨_, hJ'⟩⟩⟩
            · conv => whnf
              exact .inr ⟨rfl, .inl hX⟩
          have he : (doneG bj.state c.gates[j]).2 = 0 := eq_of_neq he
          rw [enx, if_neg (by rw [he]; decide)] at hrun
          have hnx := hbj.next (g := c.gates[j]) (o := 0) (by rw [enx]; exact he)
          rw [enx] at hnx
          conv => whnf
          refine ⟨(j + 1, Hd, _, (⟨bj.outs, bj.bits, (doneG bj.state c.gates[j]).1⟩ : Br), .slice ub (doneG bj.state c.gates[j]).1.length uc), ⟨by dsimp only; omega, by dsimp only; omega, hsj.trans sd, hJd, hnx, hbits, houts, NumW.base hu (subp _ _ _ _ hJj), by dsimp only; omega, hrun⟩, by dsimp only; omega, ?_⟩
          refine ⟨rfl, rfl, ?_⟩
          conv => whnf
          repeat (refine ⟨rfl, ?_⟩; conv => whnf)
          refine ⟨by show En.v (.int .i64 (IntKind.i64.wrap (j + 1))) = _; rw [wrap_id (by omega) (by omega)] <;> rfl, ?_⟩
          conv => whnf
          repeat (refine ⟨rfl, ?_⟩; conv => whnf)
          exact trivial
      · have hk14 : c.gates[j].kind = 14 := eq_of_neq h14
        have hM : isM c.gates[j] = true := by
          unfold isM
          rw [hk14]
          rfl
        have hone := hg1.one (by unfold isM at hM; simpa using hM)
        obtain ⟨w1, wlt, w0, hxg⟩ := hone
        obtain ⟨wbb, woff, rfl, hwr⟩ := (IntsC.h hwe).rd (i := 0) (by omega)
        have hfd : foundN (c.gates.drop j) = 1 + foundN (c.gates.drop (j + 1)) := by
          rw [List.drop_eq_getElem_cons hij, foundN_cons, hM] <;> rfl
        have hos : b.outs.length < foundN c.gates := by omega
        have hbit' : bitOK m bj := by unfold bitOK; rw [hbits]; exact hbit
        rw [if_neg (by rw [hM]; simp)] at hrun
        conv => whnf
        refine ⟨_, rdch _, ?_⟩
        conv => whnf
        refine (hRj.cho _ b.outs hp hos).use fun r Ha sa hr => ?_
        obtain ⟨csb, csc, rfl, _⟩ := id hr
        obtain ⟨hcl, hc01⟩ := hch b.outs.length (by omega)
        rw [houts] at hrun
        generalize hcs : ch b.outs.length = cs at hrun hcl hc01 hr ⊢
        have hrun0 : evG all ch (c.gates.drop i) b = (([] : List Br) ++ (evC (subG all (evG all ch (c.gates.drop (j + 1))) bj c.gates[j]) (cs.drop 0)).1, (evC (subG all (evG all ch (c.gates.drop (j + 1))) bj c.gates[j]) (cs.drop 0)).2) := by rw [List.drop_zero, List.nil_append, hrun]
        conv => whnf
        refine W_loop (pol := polL) Γok (Nat × PH × PH × List Br) (fun z => z.1 ≤ cs.length ∧ Sub Ha z.2.1 ∧ (∃ Hq, J (k0 + z.2.2.2.length) Hq z.2.1 z.2.2.1) ∧ evG all ch (c.gates.drop i) b = (z.2.2.2 ++ (evC (subG all (evG all ch (c.gates.drop (j + 1))) bj c.gates[j]) (cs.drop z.1)).1, (evC (subG all (evG all ch (c.gates.drop (j + 1))) bj c.gates[j]) (cs.drop z.1)).2)) (fun z => cs.length - z.1) (fun z => [(78, .v (.int .i64 z.1))]) (fun _ => []) (fun z => z.2.1) (fun z => z.2.2.1) ⟨(0, Ha, Mj, []), ⟨Nat.zero_le _, Sub.refl _, ⟨Hp, up _ _ _ _ _ hJj sa⟩, hrun0⟩, rfl, rfl, ?_⟩ ?_
        · conv => whnf
          repeat (refine ⟨rfl, ?_⟩; conv => whnf)
          exact trivial
        rintro ⟨q, Hq, Mq, A⟩ ⟨h1q, hsq, ⟨Hpq, hJq⟩, hrq⟩
        dsimp only at h1q hsq hJq hrq
        conv => whnf
        refine if_intro (fun hcq => ?_) (fun hcq => ?_)
        · have hiq : q < cs.length := by
            have := of_decide_eq_true hcq
            omega
          obtain ⟨ob, ooff, rfl, hro⟩ := (IntsH.up hr hsq).rd hiq
          obtain ⟨o, ho⟩ : ∃ o, o = cs[q] := ⟨_, rfl⟩
          rw [← ho] at hro
          have ho01 : o = 0 ∨ o = 1 := hc01 o (by rw [ho]; exact List.getElem_mem hiq)
          conv => whnf
          refine dec_intro (by omega) ?_
          conv => whnf
          refine ⟨_, hro _, ?_⟩
          conv => whnf
          have hdq : cs.drop q = o :: cs.drop (q + 1) := by rw [ho]; exact List.drop_eq_getElem_cons hiq
          have stepq : ∀ bs, (subG all (evG all ch (c.gates.drop (j + 1))) bj c.gates[j]) o = (bs, 0) → evG all ch (c.gates.drop i) b = ((A ++ bs) ++ (evC (subG all (evG all ch (c.gates.drop (j + 1))) bj c.gates[j]) (cs.drop (q + 1))).1, (evC (subG all (evG all ch (c.gates.drop (j + 1))) bj c.gates[j]) (cs.drop (q + 1))).2) := fun bs h => by
            rw [hrq, hdq, evC_cons, h, if_neg (by simp), List.append_assoc]
          have stopq : ((subG all (evG all ch (c.gates.drop (j + 1))) bj c.gates[j]) o).2 ≠ 0 → evG all ch (c.gates.drop i) b = (A ++ ((subG all (evG all ch (c.gates.drop (j + 1))) bj c.gates[j]) o).1, ((subG all (evG all ch (c.gates.drop (j + 1))) bj c.gates[j]) o).2) := fun h => by
            rw [hrq, hdq, evC_cons, if_pos h]
          have subq : ∀ j' y, (ysOf ((subG all (evG all ch (c.gates.drop (j + 1))) bj c.gates[j]) o))[j']? = some y → ys[k0 + A.length + j']? = some y := fun j' y h => by
            obtain ⟨T, hT⟩ := ysOf_sub (subG all (evG all ch (c.gates.drop (j + 1))) bj c.gates[j]) o (cs.drop (q + 1))
            rw [Nat.add_assoc]
            refine hys _ y ?_
            rw [hrq, ysOf_pre, hdq, hT]
            have := get_pre (A := A.map fun b => (b, (0 : Int))) (get_left (B := T) h)
            rwa [List.length_map] at this
          have hK : b.outs.length < 8 := by omega
          intro b18
          conv => whnf
          refine dec_intro (by omega) ?_
          conv => whnf
          refine overK8 (by omega) fun x0 x1 x2 x3 x4 x5 x6 x7 hx8 => ?_
          have hx8 : [x0, x1, x2, x3, x4, x5, x6, x7] = [a0, a1, a2, a3, a4, a5, a6, a7].set b.outs.length o := by
            rw [← hx8]
            congr 1
            omega
          conv => whnf
          rw [wrap_id (n := (b.outs.length : Int) + 1) (by omega) (by omega)]
          refine dec_intro (by omega) ?_
          conv => whnf
          refine ⟨_, Rd_up (hwr emp) (sa.trans hsq), ?_⟩
          conv => whnf
          rw [w0 (by omega)]
          refine (d79n bj.state (wire0 c.gates[j]) o (by rw [hbj.len]; exact p1) (by have := hok.n6; omega) _ _ (NumH.up hsvj (sa.trans hsq))).use fun r Hb sb hr2 => ?_
          obtain ⟨_, hr2⟩ := hr2
          obtain ⟨kb, kc, rfl, _⟩ := NumW.num hr2
          conv => whnf
          refine ⟨_, Rd_up (rdall emp) (sa.trans (hsq.trans sb)), ?_⟩
          conv => whnf
          refine if_intro (fun hall => ?_) (fun hall => ?_)
          · conv => whnf
            refine (d67 (keptV bj.state (wire0 c.gates[j]) o) (by rw [kept_len, hbj.len]; omega) (kept_good hbj.chk _ _) _ _ (NumW.num hr2)).val fun Hc sc => ?_
            conv => whnf
            refine if_intro (fun hdead => ?_) (fun hdead => ?_)
            · conv => whnf
              have hsub0 : (subG all (evG all ch (c.gates.drop (j + 1))) bj c.gates[j]) o = ([], 0) := if_pos ⟨not_true hall, hdead⟩
              refine ⟨(q + 1, Hc, Mq, A), ⟨hiq, hsq.trans (sb.trans sc), ⟨_, up _ _ _ _ _ hJq (sb.trans sc)⟩, by have := stepq [] hsub0; rwa [List.append_nil] at this⟩, by dsimp only; omega, ?_⟩
              refine ⟨rfl, rfl, ?_⟩
              conv => whnf
              repeat (refine ⟨rfl, ?_⟩; conv => whnf)
              refine ⟨by show En.v (.int .i64 (IntKind.i64.wrap (q + 1))) = _; rw [wrap_id (by omega) (by omega)] <;> rfl, ?_⟩
              conv => whnf
              repeat (refine ⟨rfl, ?_⟩; conv => whnf)
              exact trivial
            · have hsubq : (subG all (evG all ch (c.gates.drop (j + 1))) bj c.gates[j]) o = evG all ch (c.gates.drop (j + 1)) (nextB bj c.gates[j] o).1 := if_neg fun h => by rw [hdead] at h; exact absurd h.2 (by decide)
              have hn13 : ¬ c.gates[j].kind = 13 := by rw [hk14]; decide
              conv => whnf
              refine if_intro (fun hk13 => ?_) (fun hk13 => ?_)
              · exact absurd (eq_of_beq hk13) hn13
              conv => whnf
              refine if_intro (fun ho1 => ?_) (fun ho1 => ?_)
              · have ho1 : o = 1 := eq_of_beq ho1
                have enx : nextB bj c.gates[j] o = (⟨bj.outs ++ [o], bj.bits, (doneG (keptV bj.state (wire0 c.gates[j]) o) (xGate c.gates[j])).1⟩, (doneG (keptV bj.state (wire0 c.gates[j]) o) (xGate c.gates[j])).2) := by unfold nextB; rw [if_neg hn13, if_pos hk14, if_pos ho1]
                conv => whnf
                refine ⟨_, Rd_up (rdmap emp) (sa.trans (hsq.trans (sb.trans sc))), ?_⟩
                conv => whnf
                obtain ⟨ob, heb, hib⟩ := inv _ _ _ _ (up _ _ _ _ _ hJq (sb.trans sc))
                refine (d78n (keptV bj.state (wire0 c.gates[j]) o) (xGate c.gates[j]) n hxg (by rw [kept_len]; exact hbj.len) bm _ _ ob heb hib _ _ (NumW.num (NumW.up hr2 sc)) (hwe.up (sa.trans (hsq.trans (sb.trans sc))))).mono fun r Hd Md sd hr3 => ?_
                obtain ⟨⟨u, rfl, hu⟩, o', rfl, hi'⟩ := hr3
                obtain ⟨ub, uc, rfl, _⟩ := NumW.num hu
                conv => whnf
                refine ⟨_, Rd_up (Rd.anyO (O := emp) ⟨rfl, rfl, _, _, _, .inl hcb, rfl⟩) (sa.trans (hsq.trans ((sb.trans sc).trans sd))), ?_⟩
                conv => whnf
                rw [wrap_id (n := (j : Int) + 1) (by omega) (by omega)]
                have eo : (nextB bj c.gates[j] o).1.outs = b.outs ++ [o] := by rw [next_outs hM, houts]
                have hcall := ih (c.gates.length - (j + 1)) (by omega) (j + 1) (by omega) (nextB bj c.gates[j] o).1 [x0, x1, x2, x3, x4, x5, x6, x7] (k0 + A.length) Hpq _ _ _ (hs0.trans (hsj.trans (sa.trans (hsq.trans ((sb.trans sc).trans sd))))) (chg _ _ _ _ _ (up _ _ _ _ _ hJq ((sb.trans sc).trans sd)) hi') (hRj.up (sa.trans (hsq.trans ((sb.trans sc).trans sd)))) (hbj.next (next_err hg1 hM hbj)) (next_bit hg1 hbit' ho01) (by rw [eo, hx8]; exact hp.next (by omega) o) (by rw [eo, List.length_append]; show b.outs.length + 1 + _ ≤ _; omega) (by rw [enx]; exact NumW.base hu ((subp _ _ _ _ hJq).trans (sb.trans sc))) (by rw [← hsubq]; exact subq)
                refine (Cl.args (by rw [eo, List.length_append, List.length_singleton, ← hbits, enx] <;> rfl) hcall).mono fun r He Me se hre => ?_
                rw [← hsubq] at hre
                rcases hre with ⟨rfl, he0, hJe⟩ | ⟨rfl, hre⟩
                · conv => whnf
                  refine ⟨(q + 1, He, Me, A ++ ((subG all (evG all ch (c.gates.drop (j + 1))) bj c.gates[j]) o).1), ⟨hiq, hsq.trans (((sb.trans sc).trans sd).trans se), by rw [List.length_append, ← Nat.add_assoc]; exact hJe, stepq _ (Prod.ext rfl he0)⟩, by dsimp only; omega, ?_⟩
                  refine ⟨rfl, rfl, ?_⟩
                  conv => whnf
                  repeat (refine ⟨rfl, ?_⟩; conv => whnf)
                  refine ⟨by show En.v (.int .i64 (IntKind.i64.wrap (q + 1))) = _; rw [wrap_id (by omega) (by omega)] <;> rfl, ?_⟩
                  conv => whnf
                  repeat (refine ⟨rfl, ?_⟩; conv => whnf)
                  exact trivial
                · conv => whnf
                  refine .inr ⟨rfl, ?_⟩
                  rcases hre with hx | ⟨he, hJe⟩
                  · exact .inl hx
                  · rw [stopq he]
                    exact .inr ⟨he, by rw [List.length_append, ← Nat.add_assoc]; exact hJe⟩
              · have ho1 : ¬ o = 1 := fun h => by rw [h] at ho1; exact absurd ho1 (by decide)
                have enx : nextB bj c.gates[j] o = (⟨bj.outs ++ [o], bj.bits, keptV bj.state (wire0 c.gates[j]) o⟩, 0) := by unfold nextB; rw [if_neg hn13, if_pos hk14, if_neg ho1]
                conv => whnf
                refine ⟨_, Rd_up (Rd.anyO (O := emp) ⟨rfl, rfl, _, _, _, .inl hcb, rfl⟩) (sa.trans (hsq.trans (sb.trans sc))), ?_⟩
                conv => whnf
                rw [wrap_id (n := (j : Int) + 1) (by omega) (by omega)]
                have eo : (nextB bj c.gates[j] o).1.outs = b.outs ++ [o] := by rw [next_outs hM, houts]
                have hcall := ih (c.gates.length - (j + 1)) (by omega) (j + 1) (by omega) (nextB bj c.gates[j] o).1 [x0, x1, x2, x3, x4, x5, x6, x7] (k0 + A.length) Hpq _ _ _ (hs0.trans (hsj.trans (sa.trans (hsq.trans (sb.trans sc))))) (up _ _ _ _ _ hJq (sb.trans sc)) (hRj.up (sa.trans (hsq.trans (sb.trans sc)))) (hbj.next (next_err hg1 hM hbj)) (next_bit hg1 hbit' ho01) (by rw [eo, hx8]; exact hp.next (by omega) o) (by rw [eo, List.length_append]; show b.outs.length + 1 + _ ≤ _; omega) (by rw [enx]; exact NumW.base (NumW.up hr2 sc) (subp _ _ _ _ hJq)) (by rw [← hsubq]; exact subq)
                refine (Cl.args (by rw [eo, List.length_append, List.length_singleton, ← hbits, enx] <;> rfl) hcall).mono fun r He Me se hre => ?_
                rw [← hsubq] at hre
                rcases hre with ⟨rfl, he0, hJe⟩ | ⟨rfl, hre⟩
                · conv => whnf
                  refine ⟨(q + 1, He, Me, A ++ ((subG all (evG all ch (c.gates.drop (j + 1))) bj c.gates[j]) o).1), ⟨hiq, hsq.trans ((sb.trans sc).trans se), by rw [List.length_append, ← Nat.add_assoc]; exact hJe, stepq _ (Prod.ext rfl he0)⟩, by dsimp only; omega, ?_⟩
                  refine ⟨rfl, rfl, ?_⟩
                  conv => whnf
                  repeat (refine ⟨rfl, ?_⟩; conv => whnf)
                  refine ⟨by show En.v (.int .i64 (IntKind.i64.wrap (q + 1))) = _; rw [wrap_id (by omega) (by omega)] <;> rfl, ?_⟩
                  conv => whnf
                  repeat (refine ⟨rfl, ?_⟩; conv => whnf)
                  exact trivial
                · conv => whnf
                  refine .inr ⟨rfl, ?_⟩
                  rcases hre with hx | ⟨he, hJe⟩
                  · exact .inl hx
                  · rw [stopq he]
                    exact .inr ⟨he, by rw [List.length_append, ← Nat.add_assoc]; exact hJe⟩
          · have hsubq : (subG all (evG all ch (c.gates.drop (j + 1))) bj c.gates[j]) o = evG all ch (c.gates.drop (j + 1)) (nextB bj c.gates[j] o).1 := if_neg fun h => by rw [h.1] at hall; exact absurd hall (by decide)
            have hn13 : ¬ c.gates[j].kind = 13 := by rw [hk14]; decide
            conv => whnf
            refine if_intro (fun hk13 => ?_) (fun hk13 => ?_)
            · exact absurd (eq_of_beq hk13) hn13
            conv => whnf
            refine if_intro (fun ho1 => ?_) (fun ho1 => ?_)
            · have ho1 : o = 1 := eq_of_beq ho1
              have enx : nextB bj c.gates[j] o = (⟨bj.outs ++ [o], bj.bits, (doneG (keptV bj.state (wire0 c.gates[j]) o) (xGate c.gates[j])).1⟩, (doneG (keptV bj.state (wire0 c.gates[j]) o) (xGate c.gates[j])).2) := by unfold nextB; rw [if_neg hn13, if_pos hk14, if_pos ho1]
              conv => whnf
              refine ⟨_, Rd_up (rdmap emp) (sa.trans (hsq.trans sb)), ?_⟩
              conv => whnf
              obtain ⟨ob, heb, hib⟩ := inv _ _ _ _ (up _ _ _ _ _ hJq sb)
              refine (d78n (keptV bj.state (wire0 c.gates[j]) o) (xGate c.gates[j]) n hxg (by rw [kept_len]; exact hbj.len) bm _ _ ob heb hib _ _ (NumW.num hr2) (hwe.up (sa.trans (hsq.trans sb)))).mono fun r Hd Md sd hr3 => ?_
              obtain ⟨⟨u, rfl, hu⟩, o', rfl, hi'⟩ := hr3
              obtain ⟨ub, uc, rfl, _⟩ := NumW.num hu
              conv => whnf
              refine ⟨_, Rd_up (Rd.anyO (O := emp) ⟨rfl, rfl, _, _, _, .inl hcb, rfl⟩) (sa.trans (hsq.trans (sb.trans sd))), ?_⟩
              conv => whnf
              rw [wrap_id (n := (j : Int) + 1) (by omega) (by omega)]
              have eo : (nextB bj c.gates[j] o).1.outs = b.outs ++ [o] := by rw [next_outs hM, houts]
              have hcall := ih (c.gates.length - (j + 1)) (by omega) (j + 1) (by omega) (nextB bj c.gates[j] o).1 [x0, x1, x2, x3, x4, x5, x6, x7] (k0 + A.length) Hpq _ _ _ (hs0.trans (hsj.trans (sa.trans (hsq.trans (sb.trans sd))))) (chg _ _ _ _ _ (up _ _ _ _ _ hJq (sb.trans sd)) hi') (hRj.up (sa.trans (hsq.trans (sb.trans sd)))) (hbj.next (next_err hg1 hM hbj)) (next_bit hg1 hbit' ho01) (by rw [eo, hx8]; exact hp.next (by omega) o) (by rw [eo, List.length_append]; show b.outs.length + 1 + _ ≤ _; omega) (by rw [enx]; exact NumW.base hu ((subp _ _ _ _ hJq).trans sb)) (by rw [← hsubq]; exact subq)
              refine (Cl.args (by rw [eo, List.length_append, List.length_singleton, ← hbits, enx] <;> rfl) hcall).mono fun r He Me se hre => ?_
              rw [← hsubq] at hre
              rcases hre with ⟨rfl, he0, hJe⟩ | ⟨rfl, hre⟩
              · conv => whnf
                refine ⟨(q + 1, He, Me, A ++ ((subG all (evG all ch (c.gates.drop (j + 1))) bj c.gates[j]) o).1), ⟨hiq, hsq.trans ((sb.trans sd).trans se), by rw [List.length_append, ← Nat.add_assoc]; exact hJe, stepq _ (Prod.ext rfl he0)⟩, by dsimp only; omega, ?_⟩
                refine ⟨rfl, rfl, ?_⟩
                conv => whnf
                repeat (refine ⟨rfl, ?_⟩; conv => whnf)
                refine ⟨by show En.v (.int .i64 (IntKind.i64.wrap (q + 1))) = _; rw [wrap_id (by omega) (by omega)] <;> rfl, ?_⟩
                conv => whnf
                repeat (refine ⟨rfl, ?_⟩; conv => whnf)
                exact trivial
              · conv => whnf
                refine .inr ⟨rfl, ?_⟩
                rcases hre with hx | ⟨he, hJe⟩
                · exact .inl hx
                · rw [stopq he]
                  exact .inr ⟨he, by rw [List.length_append, ← Nat.add_assoc]; exact hJe⟩
            · have ho1 : ¬ o = 1 := fun h => by rw [h] at ho1; exact absurd ho1 (by decide)
              have enx : nextB bj c.gates[j] o = (⟨bj.outs ++ [o], bj.bits, keptV bj.state (wire0 c.gates[j]) o⟩, 0) := by unfold nextB; rw [if_neg hn13, if_pos hk14, if_neg ho1]
              conv => whnf
              refine ⟨_, Rd_up (Rd.anyO (O := emp) ⟨rfl, rfl, _, _, _, .inl hcb, rfl⟩) (sa.trans (hsq.trans sb)), ?_⟩
              conv => whnf
              rw [wrap_id (n := (j : Int) + 1) (by omega) (by omega)]
              have eo : (nextB bj c.gates[j] o).1.outs = b.outs ++ [o] := by rw [next_outs hM, houts]
              have hcall := ih (c.gates.length - (j + 1)) (by omega) (j + 1) (by omega) (nextB bj c.gates[j] o).1 [x0, x1, x2, x3, x4, x5, x6, x7] (k0 + A.length) Hpq _ _ _ (hs0.trans (hsj.trans (sa.trans (hsq.trans sb)))) (up _ _ _ _ _ hJq sb) (hRj.up (sa.trans (hsq.trans sb))) (hbj.next (next_err hg1 hM hbj)) (next_bit hg1 hbit' ho01) (by rw [eo, hx8]; exact hp.next (by omega) o) (by rw [eo, List.length_append]; show b.outs.length + 1 + _ ≤ _; omega) (by rw [enx]; exact NumW.base hr2 (subp _ _ _ _ hJq)) (by rw [← hsubq]; exact subq)
              refine (Cl.args (by rw [eo, List.length_append, List.length_singleton, ← hbits, enx] <;> rfl) hcall).mono fun r He Me se hre => ?_
              rw [← hsubq] at hre
              rcases hre with ⟨rfl, he0, hJe⟩ | ⟨rfl, hre⟩
              · conv => whnf
                refine ⟨(q + 1, He, Me, A ++ ((subG all (evG all ch (c.gates.drop (j + 1))) bj c.gates[j]) o).1), ⟨hiq, hsq.trans (sb.trans se), by rw [List.length_append, ← Nat.add_assoc]; exact hJe, stepq _ (Prod.ext rfl he0)⟩, by dsimp only; omega, ?_⟩
                refine ⟨rfl, rfl, ?_⟩
                conv => whnf
                repeat (refine ⟨rfl, ?_⟩; conv => whnf)
                refine ⟨by show En.v (.int .i64 (IntKind.i64.wrap (q + 1))) = _; rw [wrap_id (by omega) (by omega)] <;> rfl, ?_⟩
                conv => whnf
                repeat (refine ⟨rfl, ?_⟩; conv => whnf)
                exact trivial
              · conv => whnf
                refine .inr ⟨rfl, ?_⟩
                rcases hre with hx | ⟨he, hJe⟩
                · exact .inl hx
                · rw [stopq he]
                  exact .inr ⟨he, by rw [List.length_append, ← Nat.add_assoc]; exact hJe⟩
        have hqq : q = cs.length := by
          have := of_decide_eq_false hcq
          omega
        subst hqq
        conv => whnf
        have hE : evG all ch (c.gates.drop i) b = (A, 0) := by rw [hrq, List.drop_length]; show (A ++ [], 0) = _; rw [List.append_nil]
        refine .inl ⟨rfl, ?_, ?_⟩
        · rw [hE]
        · rw [hE]; exact ⟨_, hJq⟩
    · have hk13 : c.gates[j].kind = 13 := eq_of_neq h13
      have hM : isM c.gates[j] = true := by
        unfold isM
        rw [hk13]
        rfl
      have hone := hg1.one (by unfold isM at hM; simpa using hM)
      obtain ⟨w1, wlt, w0, hxg⟩ := hone
      obtain ⟨wbb, woff, rfl, hwr⟩ := (IntsC.h hwe).rd (i := 0) (by omega)
      have hfd : foundN (c.gates.drop j) = 1 + foundN (c.gates.drop (j + 1)) := by
        rw [List.drop_eq_getElem_cons hij, foundN_cons, hM] <;> rfl
      have hos : b.outs.length < foundN c.gates := by omega
      have hbit' : bitOK m bj := by unfold bitOK; rw [hbits]; exact hbit
      rw [if_neg (by rw [hM]; simp)] at hrun
      conv => whnf
      refine ⟨_, rdch _, ?_⟩
      conv => whnf
      refine (hRj.cho _ b.outs hp hos).use fun r Ha sa hr => ?_
      obtain ⟨csb, csc, rfl, _⟩ := id hr
      obtain ⟨hcl, hc01⟩ := hch b.outs.length (by omega)
      rw [houts] at hrun
      generalize hcs : ch b.outs.length = cs at hrun hcl hc01 hr ⊢
      have hrun0 : evG all ch (c.gates.drop i) b = (([] : List Br) ++ (evC (subG all (evG all ch (c.gates.drop (j + 1))) bj c.gates[j]) (cs.drop 0)).1, (evC (subG all (evG all ch (c.gates.drop (j + 1))) bj c.gates[j]) (cs.drop 0)).2) := by rw [List.drop_zero, List.nil_append, hrun]
      conv => whnf
      refine W_loop (pol := polL) Γok (Nat × PH × PH × List Br) (fun z => z.1 ≤ cs.length ∧ Sub Ha z.2.1 ∧ (∃ Hq, J (k0 + z.2.2.2.length) Hq z.2.1 z.2.2.1) ∧ evG all ch (c.gates.drop i) b = (z.2.2.2 ++ (evC (subG all (evG all ch (c.gates.drop (j + 1))) bj c.gates[j]) (cs.drop z.1)).1, (evC (subG all (evG all ch (c.gates.drop (j + 1))) bj c.gates[j]) (cs.drop z.1)).2)) (fun z => cs.length - z.1) (fun z => [(78, .v (.int .i64 z.1))]) (fun _ => []) (fun z => z.2.1) (fun z => z.2.2.1) ⟨(0, Ha, Mj, []), ⟨Nat.zero_le _, Sub.refl _, ⟨Hp, up _ _ _ _ _ hJj sa⟩, hrun0⟩, rfl, rfl, ?_⟩ ?_
      · conv => whnf
        repeat (refine ⟨rfl, ?_⟩; conv => whnf)
        exact trivial
      rintro ⟨q, Hq, Mq, A⟩ ⟨h1q, hsq, ⟨Hpq, hJq⟩, hrq⟩
      dsimp only at h1q hsq hJq hrq
      conv => whnf
      refine if_intro (fun hcq => ?_) (fun hcq => ?_)
      · have hiq : q < cs.length := by
          have := of_decide_eq_true hcq
          omega
        obtain ⟨ob, ooff, rfl, hro⟩ := (IntsH.up hr hsq).rd hiq
        obtain ⟨o, ho⟩ : ∃ o, o = cs[q] := ⟨_, rfl⟩
        rw [← ho] at hro
        have ho01 : o = 0 ∨ o = 1 := hc01 o (by rw [ho]; exact List.getElem_mem hiq)
        conv => whnf
        refine dec_intro (by omega) ?_
        conv => whnf
        refine ⟨_, hro _, ?_⟩
        conv => whnf
        have hdq : cs.drop q = o :: cs.drop (q + 1) := by rw [ho]; exact List.drop_eq_getElem_cons hiq
        have stepq : ∀ bs, (subG all (evG all ch (c.gates.drop (j + 1))) bj c.gates[j]) o = (bs, 0) → evG all ch (c.gates.drop i) b = ((A ++ bs) ++ (evC (subG all (evG all ch (c.gates.drop (j + 1))) bj c.gates[j]) (cs.drop (q + 1))).1, (evC (subG all (evG all ch (c.gates.drop (j + 1))) bj c.gates[j]) (cs.drop (q + 1))).2) := fun bs h => by
          rw [hrq, hdq, evC_cons, h, if_neg (by simp), List.append_assoc]
        have stopq : ((subG all (evG all ch (c.gates.drop (j + 1))) bj c.gates[j]) o).2 ≠ 0 → evG all ch (c.gates.drop i) b = (A ++ ((subG all (evG all ch (c.gates.drop (j + 1))) bj c.gates[j]) o).1, ((subG all (evG all ch (c.gates.drop (j + 1))) bj c.gates[j]) o).2) := fun h => by
          rw [hrq, hdq, evC_cons, if_pos h]
        have subq : ∀ j' y, (ysOf ((subG all (evG all ch (c.gates.drop (j + 1))) bj c.gates[j]) o))[j']? = some y → ys[k0 + A.length + j']? = some y := fun j' y h => by
          obtain ⟨T, hT⟩ := ysOf_sub (subG all (evG all ch (c.gates.drop (j + 1))) bj c.gates[j]) o (cs.drop (q + 1))
          rw [Nat.add_assoc]
          refine hys _ y ?_
          rw [hrq, ysOf_pre, hdq, hT]
          have := get_pre (A := A.map fun b => (b, (0 : Int))) (get_left (B := T) h)
          rwa [List.length_map] at this
        have hK : b.outs.length < 8 := by omega
        intro b18
        conv => whnf
        refine dec_intro (by omega) ?_
        conv => whnf
        refine overK8 (by omega) fun x0 x1 x2 x3 x4 x5 x6 x7 hx8 => ?_
        have hx8 : [x0, x1, x2, x3, x4, x5, x6, x7] = [a0, a1, a2, a3, a4, a5, a6, a7].set b.outs.length o := by
          rw [← hx8]
          congr 1
          omega
        conv => whnf
        rw [wrap_id (n := (b.outs.length : Int) + 1) (by omega) (by omega)]
        refine dec_intro (by omega) ?_
        conv => whnf
        refine ⟨_, Rd_up (hwr emp) (sa.trans hsq), ?_⟩
        conv => whnf
        rw [w0 (by omega)]
        refine (d79n bj.state (wire0 c.gates[j]) o (by rw [hbj.len]; exact p1) (by have := hok.n6; omega) _ _ (NumH.up hsvj (sa.trans hsq))).use fun r Hb sb hr2 => ?_
        obtain ⟨_, hr2⟩ := hr2
        obtain ⟨kb, kc, rfl, _⟩ := NumW.num hr2
        conv => whnf
        refine ⟨_, Rd_up (rdall emp) (sa.trans (hsq.trans sb)), ?_⟩
        conv => whnf
        refine if_intro (fun hall => ?_) (fun hall => ?_)
        · conv => whnf
          refine (d67 (keptV bj.state (wire0 c.gates[j]) o) (by rw [kept_len, hbj.len]; omega) (kept_good hbj.chk _ _) _ _ (NumW.num hr2)).val fun Hc sc => ?_
          conv => whnf
          refine if_intro (fun hdead => ?_) (fun hdead => ?_)
          · conv => whnf
            have hsub0 : (subG all (evG all ch (c.gates.drop (j + 1))) bj c.gates[j]) o = ([], 0) := if_pos ⟨not_true hall, hdead⟩
            refine ⟨(q + 1, Hc, Mq, A), ⟨hiq, hsq.trans (sb.trans sc), ⟨_, up _ _ _ _ _ hJq (sb.trans sc)⟩, by have := stepq [] hsub0; rwa [List.append_nil] at this⟩, by dsimp only; omega, ?_⟩
            refine ⟨rfl, rfl, ?_⟩
            conv => whnf
            repeat (refine ⟨rfl, ?_⟩; conv => whnf)
            refine ⟨by show En.v (.int .i64 (IntKind.i64.wrap (q + 1))) = _; rw [wrap_id (by omega) (by omega)] <;> rfl, ?_⟩
            conv => whnf
            repeat (refine ⟨rfl, ?_⟩; conv => whnf)
            exact trivial
          · have hsubq : (subG all (evG all ch (c.gates.drop (j + 1))) bj c.gates[j]) o = evG all ch (c.gates.drop (j + 1)) (nextB bj c.gates[j] o).1 := if_neg fun h => by rw [hdead] at h; exact absurd h.2 (by decide)
            conv => whnf
            refine if_intro (fun hk13' => ?_) (fun hk13' => ?_)
            rotate_left
            · rw [hk13] at hk13'
              exact absurd hk13' (by decide)
            obtain ⟨bt0, bt1⟩ := hg1.bit hk13
            have hm8 := hg1.b8
            have enx : nextB bj c.gates[j] o = (⟨bj.outs ++ [o], setBR bj.bits c.gates[j].bit o, keptV bj.state (wire0 c.gates[j]) o⟩, 0) := by unfold nextB; rw [if_pos hk13]
            have hSB : setBR bj.bits c.gates[j].bit o = orI (andNI b.bits (shlI 1 c.gates[j].bit)) (shlI o c.gates[j].bit) := by
              rw [hbits]
              exact (setB_eq hg1 hk13 hbit ho01).symm
            conv => whnf
            refine W_draw (pol := polL) Γok mixes [(0, .pendO), (1, .pendO), (2, .pendO), (3, .pendO), (4, .pendO), (5, .pendO), (6, .pendO), (7, .pendO), (8, .pendO), (9, .pendO), (10, .pendO)] 155 (by kernel_rfl) rfl ?_
            conv => whnf
            refine dec_intro (by omega) ?_
            conv => whnf
            refine dec_intro (by omega) ?_
            conv => whnf
            refine ⟨_, Rd_up (Rd.anyO (O := emp) ⟨rfl, rfl, _, _, _, .inl hcb, rfl⟩) (sa.trans (hsq.trans (sb.trans sc))), ?_⟩
            conv => whnf
            rw [wrap_id (n := (j : Int) + 1) (by omega) (by omega)]
            have eo : (nextB bj c.gates[j] o).1.outs = b.outs ++ [o] := by rw [next_outs hM, houts]
            have hcall := ih (c.gates.length - (j + 1)) (by omega) (j + 1) (by omega) (nextB bj c.gates[j] o).1 [x0, x1, x2, x3, x4, x5, x6, x7] (k0 + A.length) Hpq _ _ _ (hs0.trans (hsj.trans (sa.trans (hsq.trans (sb.trans sc))))) (up _ _ _ _ _ hJq (sb.trans sc)) (hRj.up (sa.trans (hsq.trans (sb.trans sc)))) (hbj.next (next_err hg1 hM hbj)) (next_bit hg1 hbit' ho01) (by rw [eo, hx8]; exact hp.next (by omega) o) (by rw [eo, List.length_append]; show b.outs.length + 1 + _ ≤ _; omega) (by rw [enx]; exact NumW.base (NumW.up hr2 sc) (subp _ _ _ _ hJq)) (by rw [← hsubq]; exact subq)
            refine (Cl.args (by rw [eo, List.length_append, List.length_singleton, enx, hSB] <;> rfl) hcall).mono fun r He Me se hre => ?_
            rw [← hsubq] at hre
            rcases hre with ⟨rfl, he0, hJe⟩ | ⟨rfl, hre⟩
            · conv => whnf
              refine ⟨(q + 1, He, Me, A ++ ((subG all (evG all ch (c.gates.drop (j + 1))) bj c.gates[j]) o).1), ⟨hiq, hsq.trans ((sb.trans sc).trans se), by rw [List.length_append, ← Nat.add_assoc]; exact hJe, stepq _ (Prod.ext rfl he0)⟩, by dsimp only; omega, ?_⟩
              refine ⟨rfl, rfl, ?_⟩
              conv => whnf
              repeat (refine ⟨rfl, ?_⟩; conv => whnf)
              refine ⟨by show En.v (.int .i64 (IntKind.i64.wrap (q + 1))) = _; rw [wrap_id (by omega) (by omega)] <;> rfl, ?_⟩
              conv => whnf
              repeat (refine ⟨rfl, ?_⟩; conv => whnf)
              exact trivial
            · conv => whnf
              refine .inr ⟨rfl, ?_⟩
              rcases hre with hx | ⟨he, hJe⟩
              · exact .inl hx
              · rw [stopq he]
                exact .inr ⟨he, by rw [List.length_append, ← Nat.add_assoc]; exact hJe⟩
        · have hsubq : (subG all (evG all ch (c.gates.drop (j + 1))) bj c.gates[j]) o = evG all ch (c.gates.drop (j + 1)) (nextB bj c.gates[j] o).1 := if_neg fun h => by rw [h.1] at hall; exact absurd hall (by decide)
          conv => whnf
          refine if_intro (fun hk13' => ?_) (fun hk13' => ?_)
          rotate_left
          · rw [hk13] at hk13'
            exact absurd hk13' (by decide)
          obtain ⟨bt0, bt1⟩ := hg1.bit hk13
          have hm8 := hg1.b8
          have enx : nextB bj c.gates[j] o = (⟨bj.outs ++ [o], setBR bj.bits c.gates[j].bit o, keptV bj.state (wire0 c.gates[j]) o⟩, 0) := by unfold nextB; rw [if_pos hk13]
          have hSB : setBR bj.bits c.gates[j].bit o = orI (andNI b.bits (shlI 1 c.gates[j].bit)) (shlI o c.gates[j].bit) := by
            rw [hbits]
            exact (setB_eq hg1 hk13 hbit ho01).symm
          conv => whnf
          refine W_draw (pol := polL) Γok mixes [(0, .pendO), (1, .pendO), (2, .pendO), (3, .pendO), (4, .pendO), (5, .pendO), (6, .pendO), (7, .pendO), (8, .pendO), (9, .pendO), (10, .pendO)] 155 (by kernel_rfl) rfl ?_
          conv => whnf
          refine dec_intro (by omega) ?_
          conv => whnf
          refine dec_intro (by omega) ?_
          conv => whnf
          refine ⟨_, Rd_up (Rd.anyO (O := emp) ⟨rfl, rfl, _, _, _, .inl hcb, rfl⟩) (sa.trans (hsq.trans sb)), ?_⟩
          conv => whnf
          rw [wrap_id (n := (j : Int) + 1) (by omega) (by omega)]
          have eo : (nextB bj c.gates[j] o).1.outs = b.outs ++ [o] := by rw [next_outs hM, houts]
          have hcall := ih (c.gates.length - (j + 1)) (by omega) (j + 1) (by omega) (nextB bj c.gates[j] o).1 [x0, x1, x2, x3, x4, x5, x6, x7] (k0 + A.length) Hpq _ _ _ (hs0.trans (hsj.trans (sa.trans (hsq.trans sb)))) (up _ _ _ _ _ hJq sb) (hRj.up (sa.trans (hsq.trans sb))) (hbj.next (next_err hg1 hM hbj)) (next_bit hg1 hbit' ho01) (by rw [eo, hx8]; exact hp.next (by omega) o) (by rw [eo, List.length_append]; show b.outs.length + 1 + _ ≤ _; omega) (by rw [enx]; exact NumW.base hr2 (subp _ _ _ _ hJq)) (by rw [← hsubq]; exact subq)
          refine (Cl.args (by rw [eo, List.length_append, List.length_singleton, enx, hSB] <;> rfl) hcall).mono fun r He Me se hre => ?_
          rw [← hsubq] at hre
          rcases hre with ⟨rfl, he0, hJe⟩ | ⟨rfl, hre⟩
          · conv => whnf
            refine ⟨(q + 1, He, Me, A ++ ((subG all (evG all ch (c.gates.drop (j + 1))) bj c.gates[j]) o).1), ⟨hiq, hsq.trans (sb.trans se), by rw [List.length_append, ← Nat.add_assoc]; exact hJe, stepq _ (Prod.ext rfl he0)⟩, by dsimp only; omega, ?_⟩
            refine ⟨rfl, rfl, ?_⟩
            conv => whnf
            repeat (refine ⟨rfl, ?_⟩; conv => whnf)
            refine ⟨by show En.v (.int .i64 (IntKind.i64.wrap (q + 1))) = _; rw [wrap_id (by omega) (by omega)] <;> rfl, ?_⟩
            conv => whnf
            repeat (refine ⟨rfl, ?_⟩; conv => whnf)
            exact trivial
          · conv => whnf
            refine .inr ⟨rfl, ?_⟩
            rcases hre with hx | ⟨he, hJe⟩
            · exact .inl hx
            · rw [stopq he]
              exact .inr ⟨he, by rw [List.length_append, ← Nat.add_assoc]; exact hJe⟩
      have hqq : q = cs.length := by
        have := of_decide_eq_false hcq
        omega
      subst hqq
      conv => whnf
      have hE : evG all ch (c.gates.drop i) b = (A, 0) := by rw [hrq, List.drop_length]; show (A ++ [], 0) = _; rw [List.append_nil]
      refine .inl ⟨rfl, ?_, ?_⟩
      · rw [hE]
      · rw [hE]; exact ⟨_, hJq⟩
  have hjj : j = c.gates.length := by
    have := of_decide_eq_false hcj
    omega
  subst hjj
  have hend : evG all ch (c.gates.drop i) b = if all = false ∧ deadB bj.state = true then ([], 0) else ([bj], 0) := by rw [hrun, List.drop_length] <;> rfl
  conv => whnf
  refine ⟨_, rdall _, ?_⟩
  conv => whnf
  refine if_intro (fun hall => ?_) (fun hall => ?_)
  · conv => whnf
    refine (d67 bj.state (by rw [hbj.len]; omega) hbj.right _ _ hsvj).val fun Hc sc => ?_
    conv => whnf
    refine if_intro (fun hdead => ?_) (fun hdead => ?_)
    · conv => whnf
      have hE : evG all ch (c.gates.drop i) b = ([], 0) := by rw [hend, if_pos ⟨by simpa using hall, hdead⟩]
      exact .inl ⟨rfl, by rw [hE], by rw [hE]; exact ⟨_, up _ _ _ _ _ hJj sc⟩⟩
    · conv => whnf
      refine W_draw (pol := polL) Γok mixes [(0, .pend), (1, .pendO), (3, .pend), (4, .pend), (2, .lock), (5, .pendO), (6, .lock), (7, .pendO)] 155 (by kernel_rfl) rfl ?_
      conv => whnf
      refine ⟨_, Rd_up (Rd.anyO (O := emp) ⟨rfl, rfl, _, _, _, .inl hyb, rfl⟩) (sc), ?_⟩
      conv => whnf
      have hE : evG all ch (c.gates.drop i) b = ([bj], 0) := by rw [hend, if_neg (fun h => by rw [hdead] at h; exact absurd h.2 (by simp))]
      refine (d105n [a0, a1, a2, a3, a4, a5, a6, a7] b.outs rfl hp.le hp.eq _).use fun r Hz sz hr => ?_
      obtain ⟨_, hr⟩ := hr
      obtain ⟨rb', rc', rfl, _⟩ := IntsW.c hr
      conv => whnf
      refine (hy k0 (bj, 0) (by have := hys 0 (bj, 0) (by rw [hE] <;> rfl); exact this) _ _ _ _ (hs0.trans (hsj.trans ((sc).trans sz))) (up _ _ _ _ _ hJj ((sc).trans sz)) ⟨.slice rb' b.outs.length rc', .slice svb bj.state.length svc, by rw [hbits], by rw [houts]; exact IntsW.base hr ((subp _ _ _ _ hJj).trans (sc)), NumW.up hsvw ((sc).trans sz)⟩).mono fun v H' M' hs hq => ?_
      rcases hq with ⟨rfl, hJ'⟩ | ⟨rfl, hX⟩
      · conv => whnf
        exact .inl ⟨rfl, by rw [hE], by rw [hE]; exact ⟨_, hJ'⟩⟩
      · conv => whnf
        exact .inr ⟨rfl, .inl hX⟩
  · conv => whnf
    refine W_draw (pol := polL) Γok mixes [(0, .pend), (1, .pendO), (3, .pend), (4, .pend), (2, .lock), (5, .pendO), (6, .lock), (7, .pendO)] 155 (by kernel_rfl) rfl ?_
    conv => whnf
    refine ⟨_, Rd_up (Rd.anyO (O := emp) ⟨rfl, rfl, _, _, _, .inl hyb, rfl⟩) (Sub.refl _), ?_⟩
    conv => whnf
    have hE : evG all ch (c.gates.drop i) b = ([bj], 0) := by rw [hend, if_neg (fun h => by rw [h.1] at hall; exact absurd hall (by decide))]
    refine (d105n [a0, a1, a2, a3, a4, a5, a6, a7] b.outs rfl hp.le hp.eq _).use fun r Hz sz hr => ?_
    obtain ⟨_, hr⟩ := hr
    obtain ⟨rb', rc', rfl, _⟩ := IntsW.c hr
    conv => whnf
    refine (hy k0 (bj, 0) (by have := hys 0 (bj, 0) (by rw [hE] <;> rfl); exact this) _ _ _ _ (hs0.trans (hsj.trans ((Sub.refl _).trans sz))) (up _ _ _ _ _ hJj ((Sub.refl _).trans sz)) ⟨.slice rb' b.outs.length rc', .slice svb bj.state.length svc, by rw [hbits], by rw [houts]; exact IntsW.base hr ((subp _ _ _ _ hJj).trans (Sub.refl _)), NumW.up hsvw ((Sub.refl _).trans sz)⟩).mono fun v H' M' hs hq => ?_
    rcases hq with ⟨rfl, hJ'⟩ | ⟨rfl, hX⟩
    · conv => whnf
      exact .inl ⟨rfl, by rw [hE], by rw [hE]; exact ⟨_, hJ'⟩⟩
    · conv => whnf
      exact .inr ⟨rfl, .inl hX⟩
end Go.Proofs.YtmhnalikebkhjaaGreatDoor


namespace Go.Proofs.YtmhnalikebkhjaaGreatDoor
open Go.Proofs.YtmhnalikebkhjaaGreatDoor.X Go.Proofs.YtmhnalikebkhjaaGreatDoor.X.PH
set_option maxRecDepth 100000

theorem Repart.back {H M : PH} {b : Nat} {o : Obj} (hd : Dis H (ins M b o)) (hM : M b = none) : Repart H (ins M b o) (ins H b o) M := by
  have hH : H b = none := (hd b).resolve_right (by rw [ins_same]; simp)
  refine ⟨sub_ins H o hH, sub_ins M o hM, fun n o' hn => ?_, fun n => ?_⟩
  · by_cases e : n = b
    · subst e; rw [ins_same] at hn ⊢; exact .inr hn
    · rw [ins_ne _ _ e] at hn; exact .inl hn
  · by_cases e : n = b
    · subst e; exact .inr hM
    · rw [ins_ne _ _ e]
      have := hd n
      rwa [ins_ne _ _ e] at this
set_option maxHeartbeats 8000000 in
theorem d103n (c : Ct) (n m : Nat) (v : Vec) (hok : RunOK c v n m) (l rb vb : Nat) (gs chf sv : Value) (bm : Nat) (all : Bool) (ch : Nat → List Int) (hch : ∀ k, k < 8 → (ch k).length ≤ 2 ∧ ∀ o ∈ ch k, o = 0 ∨ o = 1) (J : Nat → PH → PH → PH → Prop) (Jx : PH → PH → Prop) (H0 H M : PH)
    (hs0 : Sub H0 H) (hJ : J 0 H H M) (hrun : ∃ t fr, H rb = some (.cells ⟨runCells c gs bm chf all⟩ t fr)) (hvb : ∃ t fr, H vb = some (.cells ⟨[sv]⟩ t fr)) (hsv : NumH H sv v) (hgs : GatesH H gs c.gates)
    (hcho : ∀ lp os, PathOK lp os → os.length < foundN c.gates → Does Tryz.prog H chf [pv lp os.length] fun r H' => IntsH H' r (ch os.length))
    (up : ∀ k Hp H' H'' M', J k Hp H' M' → Sub H' H'' → J k Hp H'' M') (subp : ∀ k Hp H' M', J k Hp H' M' → Sub Hp H') (inv : ∀ k Hp H' M', J k Hp H' M' → ∃ o, M' bm = some o ∧ OpsI H' o) (chg : ∀ k Hp H' M' o, J k Hp H' M' → OpsI H' o → J k Hp H' (ins M' bm o))
    (hy : ∀ k y, (ysOf (evG all ch c.gates (startB v)))[k]? = some y → ∀ x Hp H' M', Sub H0 H' → J k Hp H' M' → BrN y x Hp H' → Yl Tryz.prog l x H' M' fun v H'' M'' => (v = .bool true ∧ J (k + 1) H'' H'' M'') ∨ (v = .bool false ∧ Jx H'' M'')) :
    Cl Tryz.prog 103 [.func (.yield l) #[] #[], adr rb, adr vb] H M fun _ H' M' => (∃ Hp, J (ysOf (evG all ch c.gates (startB v))).length Hp H' M') ∨ Jx H' M' := by
  obtain ⟨svb, svc, rfl, _⟩ := id hsv
  obtain ⟨gb, gc, rfl⟩ := hgs.sl
  obtain ⟨tr, fr, hrb⟩ := hrun
  obtain ⟨tv, fv, hvb⟩ := hvb
  obtain ⟨p1, p2⟩ := pow6 hok.n6
  have hvl := hok.vlen
  refine Cl_of (pol := (fun | 3 => .imm | 4 => .own | _ => .loc)) Γok Tryz.func103 (by kernel_rfl) rfl ?_
  conv => whnf
  intro b3 hb3 hO3
  conv => whnf
  have s3 := sub_ins H (.cells ⟨[.func (.yield l) #[] #[]]⟩ 121 (0, 0)) hb3
  intro b4 hb4 hO4
  conv => whnf
  refine ⟨_, _, ins_same _ _ _, Nat.le_refl 1, ?_⟩
  rw [ins_ins]
  conv => whnf
  refine W_pre fun hd => ⟨ins (ins H b3 (.cells ⟨[.func (.yield l) #[] #[]]⟩ 121 (0, 0))) b4 (.cells ⟨[.func (.func 104) #[] #[adr rb, adr b3, adr b4]]⟩ 122 (0, 0)), M, ?_, ?_⟩
  · exact Repart.back hd hO4
  refine W_draw (pol := (fun | 3 => .imm | 4 => .own | _ => .loc)) Γok mixes [(0, .pend), (1, .pend), (2, .pendO), (3, .lock), (4, .lock)] 11 (by kernel_rfl) rfl ?_
  conv => whnf
  refine ⟨_, Rd.anyO (O := emp) ⟨rfl, rfl, _, _, _, .inl (ins_same _ _ _), rfl⟩, ?_⟩
  conv => whnf
  have s4 := sub_ins (ins H b3 (.cells ⟨[.func (.yield l) #[] #[]]⟩ 121 (0, 0))) (.cells ⟨[.func (.func 104) #[] #[adr rb, adr b3, adr b4]]⟩ 122 (0, 0)) hb4
  have s34 := s3.trans s4
  refine ⟨_, Rd_up (Rd.anyO (O := emp) ⟨rfl, rfl, _, _, _, .inl hvb, rfl⟩) s34, ?_⟩
  conv => whnf
  refine (d95n v (by omega) _ _ (NumH.up hsv s34)).use fun r Ha sa hr => ?_
  obtain ⟨_, hr⟩ := hr
  obtain ⟨kb, kc, rfl, _⟩ := NumW.num hr
  conv => whnf
  have hst : startB v = ⟨[], 0, leastV v⟩ := rfl
  have hcall := d104n c n m v hok l rb b3 b4 (.slice gb c.gates.length gc) chf bm all ch hch (ysOf (evG all ch c.gates (startB v))) H0 J Jx up subp inv chg hy c.gates.length 0 (by omega) (startB v) [0, 0, 0, 0, 0, 0, 0, 0] 0 H Ha M _ (hs0.trans (s34.trans sa)) (up _ _ _ _ _ hJ (s34.trans sa)) ⟨⟨tr, fr, (s34.trans sa) _ _ hrb⟩, ⟨_, _, (s4.trans sa) _ _ (ins_same _ _ _)⟩, ⟨_, _, sa _ _ (ins_same _ _ _)⟩, hgs.up (s34.trans sa), fun lp os h1 h2 => (hcho lp os h1 h2).up (s34.trans sa)⟩ hok.start ⟨Int.le_refl _, by have := Nat.pow_pos (a := 2) (n := m) (by decide); show (0 : Int) < _; omega⟩ ⟨rfl, Nat.zero_le 8, rfl⟩ (by rw [List.drop_zero]; show 0 + _ ≤ _; omega) (NumW.base hr s34) (by rw [List.drop_zero]; intro j y h; rw [Nat.zero_add]; exact h)
  rw [List.drop_zero] at hcall
  refine (Cl.args rfl hcall).mono fun r Hb Mb sb hq => ?_
  conv => whnf
  rcases hq with ⟨_, he, _, hJ'⟩ | ⟨_, hX | ⟨he, _, hJ'⟩⟩
  · refine .inl ?_
    unfold ysOf
    rw [List.length_append, List.length_map, he, if_neg (by simp)]
    rw [Nat.zero_add] at hJ'
    exact ⟨_, hJ'⟩
  · exact .inr hX
  · refine .inl ?_
    unfold ysOf
    rw [List.length_append, List.length_map, if_pos he]
    rw [Nat.zero_add] at hJ'
    exact ⟨_, hJ'⟩
theorem d62n (c : Ct) (n m : Nat) (v : Vec) (hok : RunOK c v n m) (gs sv : Value) (cf : Nat) (cap : List Value) (bm : Nat) (all : Bool) (ch : Nat → List Int) (hch : ∀ k, k < 8 → (ch k).length ≤ 2 ∧ ∀ o ∈ ch k, o = 0 ∨ o = 1) (H : PH)
    (hsv : NumH H sv v) (hgs : GatesH H gs c.gates)
    (hcho : ∀ lp os, PathOK lp os → os.length < foundN c.gates → Does Tryz.prog H (.func (.func cf) #[] ⟨cap⟩) [pv lp os.length] fun r H' => IntsH H' r (ch os.length)) :
    Cl Tryz.prog 62 [.agg ⟨runCells c gs bm (.func (.func cf) #[] ⟨cap⟩) all⟩, sv] H emp fun r H' _ => IterN Tryz.prog bm OpsI H' r (ysOf (evG all ch c.gates (startB v))) BrN := by
  obtain ⟨svb, svc, rfl, _⟩ := id hsv
  obtain ⟨gb, gc, rfl⟩ := hgs.sl
  refine Cl_of (pol := (fun | 2 => .imm | 3 => .imm | _ => .loc)) Γok Tryz.func62 (by kernel_rfl) rfl ?_
  conv => whnf
  intro b2 hb2 hO2
  conv => whnf
  have s2 := sub_ins H (.cells ⟨runCells c (.slice gb c.gates.length gc) bm (.func (.func cf) #[] ⟨cap⟩) all⟩ 94 (0, 0)) hb2
  intro b3 hb3 hO3
  conv => whnf
  have s3 := sub_ins (ins H b2 (.cells ⟨runCells c (.slice gb c.gates.length gc) bm (.func (.func cf) #[] ⟨cap⟩) all⟩ 94 (0, 0))) (.cells ⟨[.slice svb v.length svc]⟩ 25 (0, 0)) hb3
  refine ⟨103, [], [adr b2, adr b3], rfl, fun H' hs l M J Jx h0 up subp inv chg hy => ?_⟩
  have s23 := (s2.trans s3).trans hs
  exact d103n c n m v hok l b2 b3 (.slice gb c.gates.length gc) (.func (.func cf) #[] ⟨cap⟩) (.slice svb v.length svc) bm all ch hch J Jx H' H' M (Sub.refl _) h0 ⟨_, _, (s3.trans hs) _ _ (ins_same _ _ _)⟩ ⟨_, _, hs _ _ (ins_same _ _ _)⟩ (NumH.up hsv s23) (hgs.up s23) (fun lp os h1 h2 => (hcho lp os h1 h2).up s23) up subp inv chg hy
end Go.Proofs.YtmhnalikebkhjaaGreatDoor


namespace Go.Proofs.YtmhnalikebkhjaaGreatDoor
open Go.Proofs.YtmhnalikebkhjaaGreatDoor.X Go.Proofs.YtmhnalikebkhjaaGreatDoor.X.PH
set_option maxRecDepth 100000

def BrCN (H0 H : PH) (b : Br) (c : List Value) : Prop := ∃ ov sv, c = [ov, .int .i64 b.bits, sv] ∧ IntsW H0 H ov b.outs ∧ NumW H0 H sv b.state
theorem BrCN.up {H0 H H' : PH} {b : Br} {c : List Value} (h : BrCN H0 H b c) (hs : Sub H H') : BrCN H0 H' b c := by
  obtain ⟨ov, sv, e, h1, h2⟩ := h
  exact ⟨ov, sv, e, IntsW.up h1 hs, NumW.up h2 hs⟩
theorem BrCN.base {H0 H1 H : PH} {b : Br} {c : List Value} (h : BrCN H1 H b c) (hs : Sub H0 H1) : BrCN H0 H b c := by
  obtain ⟨ov, sv, e, h1, h2⟩ := h
  exact ⟨ov, sv, e, IntsW.base h1 hs, NumW.base h2 hs⟩
theorem BrCN.c {H0 H : PH} {b : Br} {c : List Value} (h : BrCN H0 H b c) : BrC H b c := by
  obtain ⟨ov, sv, e, h1, h2⟩ := h
  exact ⟨ov, sv, e, IntsW.c h1, NumW.num h2⟩
/-- Branches that are new, each one new with regard to those ahead of it. -/
def BrsN (H0 H : PH) (bs : List Br) (cs : List (List Value)) : Prop := cs.length = bs.length ∧ ∀ (j : Nat) b c, bs[j]? = some b → cs[j]? = some c → ∃ Hp, Sub H0 Hp ∧ Sub Hp H ∧ BrCN Hp H b c ∧ ∀ (i : Nat) b' c', i < j → bs[i]? = some b' → cs[i]? = some c' → BrCN H0 Hp b' c'
theorem BrsN.nil (H0 H : PH) : BrsN H0 H [] [] := ⟨rfl, fun j b c h => by simp at h⟩
theorem BrsN.up {H0 H H' : PH} {bs : List Br} {cs : List (List Value)} (h : BrsN H0 H bs cs) (hs : Sub H H') : BrsN H0 H' bs cs := ⟨h.1, fun j b c h1 h2 => by
  obtain ⟨Hp, a1, a2, a3, a4⟩ := h.2 j b c h1 h2
  exact ⟨Hp, a1, a2.trans hs, a3.up hs, a4⟩⟩
theorem BrsN.at {H0 H : PH} {bs : List Br} {cs : List (List Value)} (h : BrsN H0 H bs cs) {j : Nat} {b : Br} {c : List Value} (h1 : bs[j]? = some b) (h2 : cs[j]? = some c) : BrCN H0 H b c := by
  obtain ⟨Hp, a1, a2, a3, a4⟩ := h.2 j b c h1 h2
  exact a3.base a1
theorem BrsN.snoc {H0 Hp H : PH} {bs : List Br} {cs : List (List Value)} {b : Br} {c : List Value} (h : BrsN H0 Hp bs cs) (h0 : Sub H0 Hp) (hs : Sub Hp H) (hn : BrCN Hp H b c) : BrsN H0 H (bs ++ [b]) (cs ++ [c]) := by
  refine ⟨by simp [h.1], fun j b1 c1 h1 h2 => ?_⟩
  by_cases hj : j < bs.length
  · rw [List.getElem?_append_left hj] at h1
    rw [List.getElem?_append_left (by rw [h.1]; exact hj)] at h2
    obtain ⟨Hq, a1, a2, a3, a4⟩ := h.2 j b1 c1 h1 h2
    refine ⟨Hq, a1, a2.trans hs, a3.up hs, fun i b' c' hi h3 h4 => a4 i b' c' hi ?_ ?_⟩
    · rwa [List.getElem?_append_left (by omega)] at h3
    · rwa [List.getElem?_append_left (by rw [h.1]; omega)] at h4
  · have hlt : j < (bs ++ [b]).length := (List.getElem?_eq_some_iff.1 h1).1
    rw [List.length_append, List.length_singleton] at hlt
    have : j = bs.length := by omega
    subst this
    rw [List.getElem?_append_right (Nat.le_refl _), Nat.sub_self] at h1
    rw [List.getElem?_append_right (by rw [h.1]; exact Nat.le_refl _), h.1, Nat.sub_self] at h2
    cases h1; cases h2
    refine ⟨Hp, h0, hs, hn, fun i b' c' hi h3 h4 => ?_⟩
    rw [List.getElem?_append_left hi] at h3
    rw [List.getElem?_append_left (by rw [h.1]; exact hi)] at h4
    exact h.at h3 h4
theorem BrsN.brs {H0 H : PH} {bs : List Br} {cs : List (List Value)} (h : BrsN H0 H bs cs) : BrsC H bs cs := ⟨h.1, fun i b c h1 h2 => (h.at h1 h2).c⟩
def OutBsN (H0 H M : PH) (r : Value) (x : List Br × Int) : Prop := ∃ u cs, r = .tuple #[u, .int .i64 x.2] ∧ OwnS M 3 47 u cs ∧ BrsN H0 H x.1 cs
theorem OutBsN.bad {H0 H M : PH} {e : Int} : OutBsN H0 H M (.tuple #[.slice none 0 0, .int .i64 e]) ([], e) := ⟨_, [], rfl, ⟨by simp, .inl ⟨rfl, rfl⟩⟩, BrsN.nil _ _⟩
theorem run_nil : ∀ (gs : List Gt) (b : Br), (runB gs b).2 ≠ 0 → (runB gs b).1 = []
  | [], b, h => by
    unfold runB at h
    split at h <;> exact absurd rfl h
  | g :: gs, b, h => by
    unfold runB at h ⊢
    by_cases hM : isM g = false
    · rw [if_pos hM] at h ⊢
      by_cases he : (nextB b g 0).2 ≠ 0
      · rw [if_pos he]
      · rw [if_neg he] at h ⊢
        exact run_nil gs _ h
    · rw [if_neg hM] at h ⊢
      by_cases h0 : (subR (runB gs) b g 0).2 ≠ 0
      · rw [if_pos h0]
      rw [if_neg h0] at h ⊢
      by_cases h1 : (subR (runB gs) b g 1).2 ≠ 0
      · rw [if_pos h1]
      rw [if_neg h1] at h
      exact absurd rfl h
theorem ys_at {E : List Br × Int} {k : Nat} {y : Br × Int} (h : (ysOf E)[k]? = some y) : (∃ hk : k < E.1.length, y = (E.1[k], 0)) ∨ (k = E.1.length ∧ E.2 ≠ 0 ∧ y = (br0, E.2)) := by
  unfold ysOf at h
  by_cases hk : k < E.1.length
  · rw [List.getElem?_append_left (by rw [List.length_map]; exact hk), List.getElem?_map, List.getElem?_eq_getElem hk] at h
    cases h
    exact .inl ⟨hk, rfl⟩
  · rw [List.getElem?_append_right (by rw [List.length_map]; omega), List.length_map] at h
    by_cases he : E.2 ≠ 0
    · rw [if_pos he] at h
      have hlt := (List.getElem?_eq_some_iff.1 h).1
      rw [List.length_singleton] at hlt
      have : k = E.1.length := by omega
      subst this
      rw [Nat.sub_self] at h
      cases h
      exact .inr ⟨rfl, he, rfl⟩
    · rw [if_neg he] at h
      simp at h
theorem ys_len {E : List Br × Int} : (ysOf E).length = E.1.length + if E.2 ≠ 0 then 1 else 0 := by
  unfold ysOf
  rw [List.length_append, List.length_map]
  split <;> rfl
def runE (c : Ct) (v : Vec) : List Br × Int := evG false (fun _ => [0, 1]) c.gates (startB v)
theorem runE_eq {c : Ct} {v : Vec} {n m : Nat} (he : beginErr c v = 0) (h : RunOK c v n m) : (runE c v).2 = (runR c v).2 ∧ ((runR c v).2 = 0 → (runE c v).1 = (runR c v).1) ∧ ((runR c v).2 ≠ 0 → (runR c v).1 = []) := by
  rw [show runR c v = runB c.gates (startB v) from if_neg (by rw [he]; simp)]
  obtain ⟨h1, h2⟩ := runB_evG c.gates (startB v) 0 h.gates h.start
  exact ⟨h1, h2, run_nil _ _⟩
theorem evG_len : ∀ (gs : List Gt) (b : Br), (evG false (fun _ => [0, 1]) gs b).1.length ≤ 2 ^ foundN gs
  | [], b => by
    unfold evG
    split <;> simp [foundN]
  | g :: gs, b => by
    have hs : ∀ o, (subG false (evG false (fun _ => [0, 1]) gs) b g o).1.length ≤ 2 ^ foundN gs := fun o => by
      unfold subG
      split
      · simp
      · exact evG_len gs _
    have hp : 0 < 2 ^ foundN gs := Nat.pow_pos (by decide)
    rw [foundN_cons]
    unfold evG
    by_cases h : isM g = false
    · rw [if_pos h, show (if isM g = true then 1 else 0) + foundN gs = foundN gs from by rw [h]; simp]
      split
      · simp
      · exact evG_len gs _
    · have ht : isM g = true := by simpa using h
      rw [if_neg h, show (if isM g = true then 1 else 0) + foundN gs = foundN gs + 1 from by rw [ht]; simp; omega, Nat.pow_succ]
      have h0 := hs 0
      have h1 := hs 1
      have c1 : (evC (subG false (evG false (fun _ => [0, 1]) gs) b g) [1]).1.length ≤ 2 ^ foundN gs := by
        rw [evC_one]; exact h1
      rw [evC_cons]
      split
      · omega
      · rw [List.length_append]; omega
theorem cho01 (H : PH) : ∀ lp os, PathOK lp os → Does Tryz.prog H (.func (.func 102) #[] #[]) [pv lp os.length] fun r H' => IntsH H' r [0, 1] := fun lp os h => ⟨102, [], [], rfl, fun H' _ => (d102 (pv lp os.length) lp os.length h.len rfl H').mono fun _ _ _ _ h => h⟩
theorem own_set_map {O : PH} {t : TypeId} {sz : Nat} {u : Value} {xs : List (List Value)} {bm : Nat} {o o' : Obj} (h : OwnS O sz t u xs) (hb : O bm = some o) (hm : ∃ es clk, o = .map es clk) : OwnS (ins O bm o') sz t u xs := OwnS.keep h fun n cs hn => (ins_ne _ _ fun e => by
  obtain ⟨es, clk, rfl⟩ := hm
  rw [e, hb] at hn
  cases hn).trans hn
theorem OwnS.toA {O : PH} {t : TypeId} {sz : Nat} {u : Value} {xs : List (List Value)} (h : OwnS O sz t u xs) : ∃ ob, OwnA O sz t u xs ob ∧ ∀ b, ob = some b → ∃ c, O b = some (.cells c t (0, 0)) := by
  obtain ⟨h1, h2⟩ := h
  rcases h2 with ⟨h, h'⟩ | ⟨b, cap, sp, h, hO, q⟩
  · exact ⟨none, ⟨h1, .inl ⟨rfl, h, h'⟩⟩, fun b e => by cases e⟩
  · exact ⟨some b, ⟨h1, .inr ⟨b, cap, sp, rfl, h, hO, q⟩⟩, fun b' e => by cases e; exact ⟨_, hO⟩⟩
theorem OwnA.delS {O : PH} {t : TypeId} {sz : Nat} {u : Value} {xs : List (List Value)} {b l : Nat} (h : OwnA O sz t u xs (some b)) (hne : b ≠ l) : OwnS (del O l) sz t u xs := by
  obtain ⟨h1, h2⟩ := h
  rcases h2 with ⟨h, _⟩ | ⟨b', cap, sp, e, h, hO, q⟩
  · cases h
  · cases e
    exact ⟨h1, .inr ⟨b, cap, sp, h, (del_ne _ hne).trans hO, q⟩⟩
theorem ins_del {O : PH} {l : Nat} {o : Obj} (h : O l = some o) : O = ins (del O l) l o := by
  funext n
  by_cases e : n = l
  · subst e; rw [ins_same, h]
  · rw [ins_ne _ _ e, del_ne _ e]
theorem OpsI.map {H : PH} {o : Obj} (h : OpsI H o) : ∃ es clk, o = .map es clk := by
  obtain ⟨es, clk, rfl, _⟩ := h
  exact ⟨_, _, rfl⟩
theorem OpsI.nil (H : PH) : OpsI H (.map #[] 0) := ⟨[], 0, rfl, fun n => .inl rfl⟩
set_option maxHeartbeats 4000000 in
theorem d16 (c : Ct) (v : Vec) (gs : Value) (hfit : c.fit) (hv : v.length ≤ 100000) (H : PH) (y : Value) (hx : GatesH H gs c.gates) (hy : NumH H y v) : Cl Tryz.prog 16 [cv c gs, y] H emp fun r H' M' => OutBsN H H' M' r (runR c v) := by
  have hg := hx
  obtain ⟨gb, gc, rfl⟩ := hx.sl
  obtain ⟨yb, yc, rfl, _⟩ := id hy
  refine Cl_of (pol := (fun | 32 => .imm | _ => .loc)) Γok Tryz.func16 (by kernel_rfl) rfl ?_
  conv => whnf
  intro b2
  conv => whnf
  intro b4
  conv => whnf
  intro b5
  conv => whnf
  refine (d61 c v (.slice gb c.gates.length gc) hfit hv _ _ hg hy).mono fun r Ha Ma sa hr => ?_
  rcases hr with ⟨he, rfl⟩ | ⟨he, bm, hbm, rfl⟩
  · conv => whnf
    intro b6
    conv => whnf
    refine if_intro (fun h => ?_) (fun h => ?_)
    · conv => whnf
      rw [show runR c v = ([], beginErr c v) from if_pos he]
      exact OutBsN.bad
    · exact absurd (eq_of_neq h) he
  obtain ⟨n, m, hok⟩ := run_ok he
  obtain ⟨e1, e2, e3⟩ := runE_eq he hok
  conv => whnf
  intro b6
  conv => whnf
  intro b9
  conv => whnf
  refine (d62n c n m v hok (.slice gb c.gates.length gc) (.slice yb v.length yc) 102 [] bm false (fun _ => [0, 1]) (fun k _ => ⟨by simp, by simp⟩) _ (NumH.up hy sa) (hg.up sa) (fun lp os h _ => cho01 _ lp os h)).use fun it Hb sb hit => ?_
  obtain ⟨_, hit⟩ := hit
  conv => whnf
  have hit : IterN Tryz.prog bm OpsI Hb it (ysOf (runE c v)) BrN := hit
  generalize hE : runE c v = E at hit e1 e2
  refine W_rangeN (pol := (fun | 32 => .imm | _ => .loc)) Γok (ysOf E) BrN hit (PH × PH × Value × List (List Value) × Int)
    (fun k i H' => i.2.2.2.2 = 0 ∧ k ≤ E.1.length ∧ Sub Hb i.1 ∧ (∃ o, i.2.1 bm = some o ∧ OpsI H' o) ∧ OwnS i.2.1 3 47 i.2.2.1 i.2.2.2.1 ∧ BrsN H i.1 (E.1.take k) i.2.2.2.1)
    (fun x i _ => x = .ret ∧ i.2.2.2.2 = E.2 ∧ E.2 ≠ 0)
    (fun i => [(1, [.slice none 0 0]), (2, [.int .i64 i.2.2.2.2]), (4, [i.2.2.1])]) (fun i => i.2.1) (fun i => i.1) ?_ ?_ ?_ ?_ ⟨(Hb, Ma, .slice none 0 0, [], 0), ⟨rfl, Nat.zero_le _, Sub.refl _, ⟨_, hbm, OpsI.nil _⟩, ⟨by simp, .inl ⟨rfl, rfl⟩⟩, BrsN.nil _ _⟩, rfl, rfl, ?_⟩ ?_ ?_ ?_
  · rintro k i H1 H2 hs ⟨a1, a2, a3, ⟨o, a4, a5⟩, a6, a7⟩
    exact ⟨a1, a2, a3, ⟨o, a4, a5.up hs⟩, a6, a7⟩
  · rintro x i H1 H2 hs h
    exact h
  · rintro k i H' ⟨a1, a2, a3, a4, a5, a6⟩
    exact a4
  · rintro k ⟨i1, i2, i3, i4, i5⟩ H' o ⟨a1, a2, a3, ⟨o', a4, a4'⟩, a5, a6⟩ ho
    exact ⟨(i1, ins i2 bm o, i3, i4, i5), ⟨a1, a2, a3, ⟨o, ins_same _ _ _, ho⟩, own_set_map a5 a4 a4'.map, a6⟩, rfl, rfl, rfl⟩
  · conv => whnf
    repeat (refine ⟨rfl, ?_⟩; conv => whnf)
  · rintro k y hyk x ⟨i1, i2, i3, i4, i5⟩ H' hs' ⟨a1, a2, a3, ⟨om, a4, a4'⟩, a5, a6⟩ hsp ⟨ov, sv, rfl, hov, hsv⟩ l o o' hl
    dsimp only at a1 a2 a3 a4 a5 a6 hsp hov hsv hl
    subst a1
    obtain ⟨ub, un', uc, rfl⟩ := OwnS.sl a5
    obtain ⟨ovb, ovc, rfl, _⟩ := IntsW.c hov
    obtain ⟨svb, svc, rfl, _⟩ := NumW.num hsv
    conv => whnf
    intro b10
    conv => whnf
    refine ⟨rfl, ?_⟩
    conv => whnf
    refine ⟨i2, rfl, ?_⟩
    conv => whnf
    refine if_intro (fun h => ?_) (fun h => ?_)
    · have hy2 : y.2 ≠ 0 := neq_of h
      rcases ys_at hyk with ⟨hk, rfl⟩ | ⟨hk, h2, rfl⟩
      · exact absurd rfl hy2
      conv => whnf
      refine ⟨(i1, i2, .slice ub un' uc, i4, E.2), .inr ⟨⟨rfl, rfl, h2⟩, rfl⟩, hl, rfl, ?_⟩
      conv => whnf
      repeat (refine ⟨rfl, ?_⟩; conv => whnf)
      exact trivial
    · have hy2 : y.2 = 0 := eq_of_neq h
      rcases ys_at hyk with ⟨hk, rfl⟩ | ⟨hk, h2, rfl⟩
      rotate_left
      · exact absurd hy2 h2
      conv => whnf
      intro b32 hb32 hO32
      conv => whnf
      have s32 := sub_ins H' (.cells ⟨[.slice ovb E.1[k].outs.length ovc, .int .i64 E.1[k].bits, .slice svb E.1[k].state.length svc]⟩ 47 (0, 0)) hb32
      have hcl : i4.length = k := by rw [a6.1, List.length_take]; omega
      have hkk : E.1.length ≤ 256 := by
        rw [← hE]
        have := evG_len c.gates (startB v)
        have h2 := Nat.pow_le_pow_right (n := 2) (by decide) hok.few
        exact Nat.le_trans this h2
      obtain ⟨oa, hoa, hob⟩ := OwnS.toA a5
      have hlo : ∀ b, oa = some b → b ≠ l := fun b e => by
        obtain ⟨c, hc⟩ := hob b e
        intro e2
        rw [e2, hl] at hc
        cases hc
      refine append_ap (OwnA.up hoa (sub_ins i2 o' hl)) rfl (y := [.slice ovb E.1[k].outs.length ovc, .int .i64 E.1[k].bits, .slice svb E.1[k].state.length svc]) rfl (by simp [Value.oneCell']) ⟨_, _, _, rfl, rfl, ⟨rfl, rfl, _, _, _, .inl (ins_same _ _ _), rfl⟩⟩ (by rw [hcl]; omega) fun u' O' bu hu' hbu hkeep => ?_
      have hu2 := hu'
      obtain ⟨ub', uc', rfl⟩ := OwnA.sl hu'
      conv => whnf
      have hbl : bu ≠ l := by
        rcases hbu with h | h
        · exact hlo bu h
        · intro e; rw [e, ins_same] at h; cases h
      have hbml : bm ≠ l := fun e => by rw [e, hl] at a4; cases a4
      have hbm' : O' bm = some om := hkeep bm om (by rw [ins_ne _ _ hbml]; exact a4) fun e => by
        obtain ⟨c, hc⟩ := hob bm e
        obtain ⟨es, clk, rfl⟩ := a4'.map
        rw [a4] at hc
        cases hc
      have hl' : O' l = some o' := hkeep l o' (ins_same _ _ _) fun e => hlo l e rfl
      refine ⟨(ins H' b32 (.cells ⟨[.slice ovb E.1[k].outs.length ovc, .int .i64 E.1[k].bits, .slice svb E.1[k].state.length svc]⟩ 47 (0, 0)), del O' l, .slice ub' (i4 ++ [([.slice ovb E.1[k].outs.length ovc, .int .i64 E.1[k].bits, .slice svb E.1[k].state.length svc] : List Value)]).length uc', i4 ++ [[.slice ovb E.1[k].outs.length ovc, .int .i64 E.1[k].bits, .slice svb E.1[k].state.length svc]], 0), .inl ⟨rfl, ⟨rfl, hk, a3.trans (hsp.trans s32), ⟨om, (del_ne _ hbml).trans hbm', a4'.up s32⟩, OwnA.delS hu2 hbl, ?_⟩, rfl⟩, del_same _ _, ins_del hl', ?_⟩
      · rw [List.take_succ_eq_append_getElem hk]
        exact BrsN.snoc a6 ((sa.trans sb).trans a3) (hsp.trans s32) ⟨_, _, rfl, IntsW.up hov s32, NumW.up hsv s32⟩
      conv => whnf
      repeat (refine ⟨rfl, ?_⟩; conv => whnf)
      exact trivial
  · rintro ⟨i1, i2, i3, i4, i5⟩ H' hs' ⟨a1, a2, a3, ⟨om, a4, a4'⟩, a5, a6⟩ hsp
    dsimp only at a1 a2 a3 a4 a5 a6 hsp
    subst a1
    obtain ⟨ub, un', uc, rfl⟩ := OwnS.sl a5
    have hE2 : E.2 = 0 := by
      rw [ys_len] at a2
      by_cases h : E.2 ≠ 0
      · rw [if_pos h] at a2; omega
      · simpa using h
    have hlen : (ysOf E).length = E.1.length := by rw [ys_len, if_neg (by rw [hE2]; simp), Nat.add_zero]
    rw [hlen, List.take_length] at a6
    conv => whnf
    refine ⟨_, i4, by rw [← e1, hE2], a5, ?_⟩
    rw [← e2 (by rw [← e1]; exact hE2)]
    exact a6.up hsp
  · rintro x ⟨i1, i2, i3, i4, i5⟩ H' hs' ⟨rfl, a1, a2⟩
    dsimp only at a1
    subst a1
    conv => whnf
    refine ⟨_, [], by rw [← e1], ⟨by simp, .inl ⟨rfl, rfl⟩⟩, ?_⟩
    rw [e3 (by rw [← e1]; exact a2)]
    exact BrsN.nil _ _
end Go.Proofs.YtmhnalikebkhjaaGreatDoor


namespace Go.Proofs.YtmhnalikebkhjaaGreatDoor
open Go.Proofs.YtmhnalikebkhjaaGreatDoor.X Go.Proofs.YtmhnalikebkhjaaGreatDoor.X.PH
set_option maxRecDepth 100000

def e08 (e : Int) : Prop := e = 0 ∨ e = 8
theorem fits_e (p : P4) (k : Int) : e08 (fitsR p k).2 := by
  unfold fitsR
  split
  · exact .inr rfl
  · exact .inl rfl
theorem add_e {x y : P4 × Int} (hx : checkF x.1 x.2 = 0) (hy : checkF y.1 y.2 = 0) : e08 (AddR x y).2 := by
  rw [(Add_fits hx hy).1]
  exact fits_e _ _
theorem mul_e {x y : P4 × Int} (hx : checkF x.1 x.2 = 0) (hy : checkF y.1 y.2 = 0) : e08 (MulR x y).2 := by
  rw [(Mul_fits hx hy).1]
  exact fits_e _ _
theorem norm_e {x : P4 × Int} (hx : checkF x.1 x.2 = 0) : e08 (NormR x).2 := by
  unfold NormR
  rw [if_neg (by rw [← checkF_checkR, hx]; simp)]
  exact fits_e _ _
theorem nstep_e {o x : P4 × Int} (ho : checkF o.1 o.2 = 0) (hx : checkF x.1 x.2 = 0) : e08 (nstep o x).2 := by
  unfold nstep
  by_cases h : (NormR x).2 ≠ 0
  · rw [if_pos h]; exact norm_e hx
  · rw [if_neg h]
    have := norm_right (x := x) (by simpa using h)
    exact add_e ho (by rw [checkF_checkR]; exact this)
theorem normG_e : ∀ (v : Vec) (o : P4 × Int), checkF o.1 o.2 = 0 → (∀ x ∈ v, checkF x.1 x.2 = 0) → e08 (normG o v).2 ∧ ((normG o v).2 = 0 → checkF (normG o v).1.1 (normG o v).1.2 = 0)
  | [], o, ho, _ => ⟨.inl rfl, fun _ => ho⟩
  | x :: v, o, ho, hv => by
    have hx := hv x (List.mem_cons_self ..)
    unfold normG
    by_cases h : (nstep o x).2 ≠ 0
    · rw [if_pos h]
      exact ⟨nstep_e ho hx, fun h2 => absurd h2 h⟩
    · rw [if_neg h]
      exact normG_e v _ (nstep_L (by simpa using h)).ok fun y hy => hv y (List.mem_cons_of_mem _ hy)
theorem dotP_e (L : List Pr) (h : ∀ p ∈ L, checkF p.1.1 p.1.2 = 0 ∧ checkF p.2.1 p.2.2 = 0) : e08 (dotP L).2 := by
  have key : ∀ n, n ≤ L.length → e08 (dotP (L.take n)).2 := by
    intro n
    induction n with
    | zero => intro _; exact .inl rfl
    | succ n ih =>
      intro hn
      have ihL := ih (by omega)
      obtain ⟨p1, p2⟩ := h L[n] (List.getElem_mem (by omega))
      rw [List.take_succ_eq_append_getElem (by omega), dotP_snoc]
      by_cases h0 : (dotP (L.take n)).2 = 0
      · rw [if_pos h0]
        have hL := dotP_L _ h0
        have hm := mul_e p1 p2
        unfold dotStepR
        dsimp only
        by_cases hm0 : (MulR L[n].1 L[n].2).2 = 0
        · rw [if_pos hm0]
          cases hi : (L.take n).isEmpty with
          | true =>
            simp only [if_true]
            rw [if_pos hm0]
            exact .inl rfl
          | false =>
            simp only [Bool.false_eq_true, if_false]
            have ha := add_e hL.ok (Mul_L hm0).ok
            by_cases ha0 : (AddR (dotP (L.take n)).1 (MulR L[n].1 L[n].2).1).2 = 0
            · rw [if_pos ha0]; exact .inl rfl
            · rw [if_neg ha0]; exact ha
        · rw [if_neg hm0, if_neg hm0]
          exact hm
      · rw [if_neg h0]
        exact ihL
  have := key L.length (Nat.le_refl _)
  rwa [List.take_length] at this
theorem opM_right : ∀ k, k < 13 → (opM k).all (fun r => r.all fun x => checkF x.1 x.2 == 0) = true := by decide +kernel
theorem entry_rt {k : Nat} (hk : k < 13) (i c : Nat) : checkF (entry (opM k) i c).1 (entry (opM k) i c).2 = 0 := by
  unfold entry
  by_cases hi : i < (opM k).length
  · have hr := List.all_eq_true.1 (opM_right k hk) _ (List.getElem_mem hi)
    rw [List.getD_eq_getElem?_getD (l := opM k), List.getElem?_eq_getElem hi]
    by_cases hc : c < (opM k)[i].length
    · have := List.all_eq_true.1 hr _ (List.getElem_mem hc)
      rw [Option.getD_some, List.getD_eq_getElem?_getD, List.getElem?_eq_getElem hc]
      simpa using this
    · rw [Option.getD_some, List.getD_eq_getElem?_getD, List.getElem?_eq_none (by omega)]
      show checkF P4.zero 0 = 0
      decide
  · rw [List.getD_eq_getElem?_getD (l := opM k), List.getElem?_eq_none (by omega)]
    show checkF P4.zero 0 = 0
    decide
theorem vAt_right {v : Vec} (h : ∀ x ∈ v, checkF x.1 x.2 = 0) (b : Nat) : checkF (vAt v b).1 (vAt v b).2 = 0 := by
  by_cases hb : b < v.length
  · exact h _ (vAt_mem hb)
  · unfold vAt
    rw [List.getD_eq_getElem?_getD, List.getElem?_eq_none (by omega)]
    decide
theorem done_e {v : Vec} {g : Gt} {n : Nat} (hg : GateOK g n) (hv : ∀ x ∈ v, checkF x.1 x.2 = 0) : e08 (doneG v g).2 := by
  have hk := hg.k2
  have hr : ∀ a, e08 (rowG v g a).2 := fun a => by
    unfold rowG
    refine dotP_e _ fun p hp => ?_
    unfold rowL at hp
    obtain ⟨c, _, rfl⟩ := List.mem_map.1 hp
    exact ⟨entry_rt (k := g.kind.toNat) (by omega) _ _, vAt_right hv _⟩
  unfold doneG rowsE
  have key : ∀ l : List Int, (∀ e ∈ l, e08 e) → e08 (firstErr l) := by
    intro l
    induction l with
    | nil => intro _; exact .inl rfl
    | cons e l ih =>
      intro h
      unfold firstErr
      split
      · exact ih fun x hx => h x (List.mem_cons_of_mem _ hx)
      · exact h e (List.mem_cons_self ..)
  split
  · exact key _ fun e he => by
      obtain ⟨a, _, rfl⟩ := List.mem_map.1 he
      exact hr a
  · exact .inl rfl
theorem next_e {b : Br} {g : Gt} {o : Int} {n m i : Nat} (hg : RGate g n m) (hb : BrOK b n i) : e08 (nextB b g o).2 := by
  by_cases hM : isM g = true
  · exact .inl (next_err hg hM hb)
  · have hM : isM g = false := by simpa using hM
    unfold isM at hM
    have h13 : ¬ g.kind = 13 := fun e => by rw [e] at hM; simp at hM
    have h14 : ¬ g.kind = 14 := fun e => by rw [e] at hM; simp at hM
    unfold nextB
    rw [if_neg h13, if_neg h14]
    split
    · exact done_e (hg.plain h13 h14) hb.chk
    · exact .inl rfl
theorem run_e {n m : Nat} : ∀ (gs : List Gt) (b : Br) (i : Nat), (∀ g ∈ gs, RGate g n m) → BrOK b n i → e08 (runB gs b).2
  | [], b, i, _, _ => by
    unfold runB
    split <;> exact .inl rfl
  | g :: gs, b, i, hgs, hb => by
    have hg := hgs g (List.mem_cons_self ..)
    have hgs' : ∀ g ∈ gs, RGate g n m := fun g' h => hgs g' (List.mem_cons_of_mem _ h)
    have hs : ∀ o, e08 (subR (runB gs) b g o).2 := fun o => by
      unfold subR
      by_cases he : (nextB b g o).2 ≠ 0
      · rw [if_pos he]; exact next_e hg hb
      rw [if_neg he]
      split
      · exact .inl rfl
      · exact run_e gs _ (i + 1) hgs' (hb.next (by simpa using he))
    unfold runB
    split
    · by_cases he : (nextB b g 0).2 ≠ 0
      · rw [if_pos he]; exact next_e hg hb
      · rw [if_neg he]; exact run_e gs _ (i + 1) hgs' (hb.next (by simpa using he))
    split
    · exact hs 0
    split
    · exact hs 1
    · exact .inl rfl
/-- What holds of each branch. -/
theorem ev_mem {n m : Nat} : ∀ (gs : List Gt) (b : Br) (i : Nat), (∀ g ∈ gs, RGate g n m) → BrOK b n i → bitOK m b → ∀ x ∈ (evG false (fun _ => [0, 1]) gs b).1, bitOK m x ∧ x.state.length = 2 ^ n ∧ ∀ y ∈ x.state, IsL y
  | [], b, i, _, hb, hbit, x, hx => by
    unfold evG at hx
    split at hx
    · cases hx
    · rw [List.mem_singleton] at hx
      rw [hx]; exact ⟨hbit, hb.len, hb.right⟩
  | g :: gs, b, i, hgs, hb, hbit, x, hx => by
    have hg := hgs g (List.mem_cons_self ..)
    have hgs' : ∀ g ∈ gs, RGate g n m := fun g' h => hgs g' (List.mem_cons_of_mem _ h)
    unfold evG at hx
    by_cases hM : isM g = false
    · rw [if_pos hM] at hx
      by_cases he : (nextB b g 0).2 ≠ 0
      · rw [if_pos he] at hx; cases hx
      · rw [if_neg he] at hx
        exact ev_mem gs _ (i + 1) hgs' (hb.next (by simpa using he)) (next_bit hg hbit (.inl rfl)) x hx
    rw [if_neg hM] at hx
    have hs : ∀ o, (o = 0 ∨ o = 1) → ∀ x ∈ (subG false (evG false (fun _ => [0, 1]) gs) b g o).1, bitOK m x ∧ x.state.length = 2 ^ n ∧ ∀ y ∈ x.state, IsL y := fun o ho x hx => by
      unfold subG at hx
      split at hx
      · cases hx
      · exact ev_mem gs _ (i + 1) hgs' (hb.next (next_err hg (by simpa using hM) hb)) (next_bit hg hbit ho) x hx
    rw [evC_cons] at hx
    split at hx
    · exact hs 0 (.inl rfl) x hx
    · rw [evC_one] at hx
      rcases List.mem_append.1 hx with h | h
      · exact hs 0 (.inl rfl) x h
      · exact hs 1 (.inr rfl) x h
def bstep (acc : Vec) (b : Br) : Vec × Int :=
  if (normG (P4.zero, 0) b.state).2 ≠ 0 then ([], (normG (P4.zero, 0) b.state).2)
  else if (AddR (vAt acc b.bits.toNat) (normG (P4.zero, 0) b.state).1).2 ≠ 0 then ([], (AddR (vAt acc b.bits.toNat) (normG (P4.zero, 0) b.state).1).2)
  else (acc.set b.bits.toNat (AddR (vAt acc b.bits.toNat) (normG (P4.zero, 0) b.state).1).1, 0)
def bitsF : Vec → List Br → Vec × Int
  | acc, [] => (acc, 0)
  | acc, b :: l => if (bstep acc b).2 ≠ 0 then ([], (bstep acc b).2) else bitsF (bstep acc b).1 l
theorem bitsF_at {l : List Br} {i : Nat} (hi : i < l.length) (acc : Vec) : bitsF acc (l.drop i) = if (bstep acc l[i]).2 ≠ 0 then ([], (bstep acc l[i]).2) else bitsF (bstep acc l[i]).1 (l.drop (i + 1)) := by
  rw [List.drop_eq_getElem_cons hi]
  rfl
theorem bitsF_bad : ∀ (l : List Br) (acc : Vec), (bitsF acc l).2 ≠ 0 → (bitsF acc l).1 = []
  | [], acc, h => absurd rfl h
  | b :: l, acc, h => by
    unfold bitsF at h ⊢
    by_cases hb : (bstep acc b).2 ≠ 0
    · rw [if_pos hb]
    · rw [if_neg hb] at h ⊢
      exact bitsF_bad l _ h
theorem bstep_e {acc : Vec} {b : Br} (ha : ∀ x ∈ acc, IsL x) (hb : ∀ x ∈ b.state, IsL x) : e08 (bstep acc b).2 ∧ ((bstep acc b).2 = 0 → ∀ x ∈ (bstep acc b).1, IsL x) := by
  obtain ⟨n1, n2⟩ := normG_e b.state (P4.zero, 0) (by decide) fun x hx => (hb x hx).ok
  unfold bstep
  by_cases h1 : (normG (P4.zero, 0) b.state).2 ≠ 0
  · rw [if_pos h1]
    exact ⟨n1, fun h => absurd h h1⟩
  rw [if_neg h1]
  have h1 : (normG (P4.zero, 0) b.state).2 = 0 := by simpa using h1
  have a1 := add_e (vAt_right (fun x hx => (ha x hx).ok) b.bits.toNat) (n2 h1)
  by_cases h2 : (AddR (vAt acc b.bits.toNat) (normG (P4.zero, 0) b.state).1).2 ≠ 0
  · rw [if_pos h2]
    exact ⟨a1, fun h => absurd h h2⟩
  rw [if_neg h2]
  refine ⟨.inl rfl, fun _ x hx => ?_⟩
  rcases List.mem_or_eq_of_mem_set hx with h | h
  · exact ha x h
  · rw [h]
    exact Add_L (by simpa using h2)
theorem bits_e : ∀ (l : List Br) (acc : Vec), (∀ x ∈ acc, IsL x) → (∀ b ∈ l, ∀ x ∈ b.state, IsL x) → e08 (bitsF acc l).2
  | [], _, _, _ => .inl rfl
  | b :: l, acc, ha, hl => by
    obtain ⟨h1, h2⟩ := bstep_e (acc := acc) ha (hl b (List.mem_cons_self ..))
    unfold bitsF
    by_cases hb : (bstep acc b).2 ≠ 0
    · rw [if_pos hb]; exact h1
    · rw [if_neg hb]
      exact bits_e l _ (h2 (by simpa using hb)) fun b' h => hl b' (List.mem_cons_of_mem _ h)
def bitsR (c : Ct) (v : Vec) : Vec × Int := if (runR c v).2 ≠ 0 then ([], (runR c v).2) else bitsF (zeros (2 ^ c.bits.toNat)) (runR c v).1
def bitsE (E : List Br × Int) (m : Nat) : Vec × Int := if (bitsF (zeros (2 ^ m)) E.1).2 ≠ 0 then ([], (bitsF (zeros (2 ^ m)) E.1).2) else if E.2 ≠ 0 then ([], E.2) else bitsF (zeros (2 ^ m)) E.1
theorem zeros_L (n : Nat) : ∀ x ∈ zeros n, IsL x := fun x hx => by
  rw [List.eq_of_mem_replicate hx]
  exact zero_L
theorem RunOK.startBit {c : Ct} {v : Vec} {n m : Nat} (_ : RunOK c v n m) : bitOK m (startB v) := ⟨Int.le_refl _, by have := Nat.pow_pos (a := 2) (n := m) (by decide); show (0 : Int) < _; omega⟩
theorem bits_same {c : Ct} {v : Vec} {n m : Nat} (he : beginErr c v = 0) (h : RunOK c v n m) : bitsE (runE c v) m = bitsR c v := by
  obtain ⟨e1, e2, e3⟩ := runE_eq he h
  have hm : c.bits.toNat = m := by have := h.bits; omega
  have hmem := ev_mem c.gates (startB v) 0 h.gates h.start h.startBit
  have hb := bits_e (runE c v).1 (zeros (2 ^ m)) (zeros_L _) fun b hb x hx => (hmem b hb).2.2 x hx
  have hr : e08 (runR c v).2 := by
    rw [show runR c v = runB c.gates (startB v) from if_neg (by rw [he]; simp)]
    exact run_e c.gates (startB v) 0 h.gates h.start
  unfold bitsE bitsR
  rw [hm]
  by_cases h0 : (runR c v).2 ≠ 0
  · rw [if_pos h0]
    have h8 : (runR c v).2 = 8 := hr.resolve_left h0
    by_cases hb0 : (bitsF (zeros (2 ^ m)) (runE c v).1).2 ≠ 0
    · rw [if_pos hb0, hb.resolve_left hb0, h8]
    · rw [if_neg hb0, e1, if_pos h0]
  · rw [if_neg h0]
    have h0' : (runR c v).2 = 0 := by simpa using h0
    rw [← e2 h0', e1, if_neg h0]
    by_cases hb0 : (bitsF (zeros (2 ^ m)) (runE c v).1).2 ≠ 0
    · rw [if_pos hb0]
      exact Prod.ext (bitsF_bad _ _ hb0).symm rfl
    · rw [if_neg hb0]
theorem st_ok {v : Vec} {n : Nat} (hn : n ≤ 6) (hl : v.length = 2 ^ n) (hL : ∀ x ∈ v, IsL x) : stErr v = 0 := by
  unfold stErr
  rw [hl, size_at n (by omega), if_neg (by omega)]
  unfold errsR
  exact firstErr_all fun e he => by
    obtain ⟨x, hx, rfl⟩ := List.mem_map.1 he
    rw [← checkF_checkR]
    exact (hL x hx).ok
end Go.Proofs.YtmhnalikebkhjaaGreatDoor


namespace Go.Proofs.YtmhnalikebkhjaaGreatDoor
open Go.Proofs.YtmhnalikebkhjaaGreatDoor.X Go.Proofs.YtmhnalikebkhjaaGreatDoor.X.PH
set_option maxRecDepth 100000

theorem cellsN_at {l : Vec} {i : Nat} (hi : i < l.length) : ((cellsN l).drop (0 + i * 5)).take 5 = cellsOf l[i] := by
  have h := flat_at (sz := 5) (cs := l.map cellsOf) (fun c hc => by obtain ⟨x, _, rfl⟩ := List.mem_map.1 hc; rfl) (i := i) (by simpa using hi)
  rw [Nat.zero_add]
  exact h.trans (by simp)
theorem run_begin {c : Ct} {v : Vec} (h : (runR c v).2 = 0) : beginErr c v = 0 := by
  unfold runR at h
  by_cases hb : beginErr c v ≠ 0
  · rw [if_pos hb] at h; exact absurd h hb
  · simpa using hb
def bufO (b : Nat) (acc : Vec) : PH := ins emp b (.cells ⟨cellsN acc⟩ 32 (0, 0))
set_option maxHeartbeats 4000000 in
theorem d15o (c : Ct) (v : Vec) (hfit : c.fit) (hv : v.length ≤ 100000) (H : PH) (x y : Value) (hx : CircH H x c) (hy : NumH H y v) : Cl Tryz.prog 15 [x, y] H emp fun r _ M' => OutVO M' r (bitsR c v) := by
  obtain ⟨gb, gc, rfl, hg⟩ := hx.sl
  obtain ⟨yb, yc, rfl, _⟩ := id hy
  refine Cl_of (pol := polL) Γok Tryz.func15 (by kernel_rfl) rfl ?_
  conv => whnf
  intro b2
  conv => whnf
  refine (d13 c v hfit hv _ _ _ ⟨_, rfl, hg⟩ hy).use fun r Ha sa hr => ?_
  obtain ⟨_, u, rfl, cs, hcs, hbs⟩ := hr
  obtain ⟨ub, uc, rfl⟩ := hcs.sl
  conv => whnf
  refine if_intro (fun h => ?_) (fun h => ?_)
  · conv => whnf
    rw [show bitsR c v = ([], (runR c v).2) from if_pos (neq_of h)]
    exact OutVO.bad
  have h0 : (runR c v).2 = 0 := eq_of_neq h
  have he := run_begin h0
  obtain ⟨n, m, hok⟩ := run_ok he
  have hR : bitsR c v = bitsF (zeros (2 ^ m)) (runR c v).1 := by
    unfold bitsR
    rw [if_neg (by rw [h0]; simp), hok.bits, Int.toNat_natCast]
  rw [hR]
  have hmem : ∀ b ∈ (runR c v).1, bitOK m b ∧ b.state.length = 2 ^ n ∧ ∀ y ∈ b.state, IsL y := by
    rw [← (runE_eq he hok).2.1 h0]
    exact ev_mem c.gates (startB v) 0 hok.gates hok.start hok.startBit
  have hlenR : (runR c v).1.length ≤ 256 := by
    rw [← (runE_eq he hok).2.1 h0]
    exact Nat.le_trans (evG_len c.gates (startB v)) (Nat.pow_le_pow_right (n := 2) (by decide) hok.few)
  have m8 := hok.m8
  have hbits := hok.bits
  obtain ⟨p1, p2⟩ := pow6 hok.n6
  have hm1 : 2 ^ m ≤ 256 := Nat.pow_le_pow_right (n := 2) (by decide) m8
  generalize runR c v = R at hcs hbs hmem hlenR h0
  have hcs0 : cs.length = R.1.length := hbs.1
  obtain ⟨s, hs⟩ : ∃ s, s = 2 ^ m := ⟨_, rfl⟩
  conv => whnf
  refine dec_intro (by omega) ?_
  rw [hbits]
  conv => whnf
  rw [shl_nat (by omega), ← hs]
  rw [← hs] at hm1
  conv => whnf
  refine dec_intro (Int.le_refl _) ?_
  conv => whnf
  refine dec_intro (by omega) ?_
  conv => whnf
  refine dec_intro (by omega) ?_
  conv => whnf
  intro b8 hb8 hO8
  rw [show (List.replicate (s : Int).toNat _).flatten = cellsN (zeros s) from zeros_flat s]
  conv => whnf
  refine W_loop (pol := polL) Γok (Nat × PH × Vec) (fun i => i.1 ≤ R.1.length ∧ Sub Ha i.2.1 ∧ i.2.2.length = s ∧ bitsF (zeros s) R.1 = bitsF i.2.2 (R.1.drop i.1)) (fun i => R.1.length - i.1) (fun i => [(9, .v (.int .i64 i.1))]) (fun _ => []) (fun i => i.2.1) (fun i => bufO b8 i.2.2) ⟨(0, Ha, zeros s), ⟨by simp, Sub.refl _, by simp [zeros], by rw [List.drop_zero]⟩, rfl, rfl, ?_⟩ ?_
  · conv => whnf
    repeat (refine ⟨rfl, ?_⟩; conv => whnf)
    exact trivial
  rintro ⟨i, Hi, acc⟩ ⟨h1i, hsi, hli, hpi⟩
  dsimp only at h1i hsi hli hpi
  conv => whnf
  refine if_intro (fun hci => ?_) (fun hci => ?_)
  · have hii : i < R.1.length := by
      have := of_decide_eq_true hci
      rw [hcs0] at this
      omega
    obtain ⟨⟨bit0, bit1⟩, hsl, hsL⟩ := hmem _ (List.getElem_mem hii)
    rw [bitsF_at hii] at hpi
    obtain ⟨rb, roff, rfl, hrd⟩ := hcs.rd (i := i) (by rw [hcs0]; exact hii)
    obtain ⟨ov, sv, ec, hov, hsv⟩ := hbs.2 i _ _ (List.getElem?_eq_getElem hii) (List.getElem?_eq_getElem (by rw [hcs0]; exact hii))
    rw [ec] at hrd
    obtain ⟨svb, svc, rfl, _⟩ := id hsv
    have hst := st_ok hok.n6 hsl hsL
    conv => whnf
    refine dec_intro (by omega) ?_
    conv => whnf
    refine ⟨_, Rd_part (hrd Hi _ hsi) 2 1 (by omega) rfl, ?_⟩
    conv => whnf
    refine (d42 R.1[i].state (by rw [hsl]; omega) _ _ (NumH.up hsv hsi)).val fun Hb sb => ?_
    rw [show NormV R.1[i].state = normG (P4.zero, 0) R.1[i].state from if_neg (by rw [hst]; simp)]
    generalize hN : normG (P4.zero, 0) R.1[i].state = N
    obtain ⟨⟨⟨xa, xb, xc, xd⟩, xk⟩, xe⟩ := N
    conv => whnf
    intro b10
    conv => whnf
    refine if_intro (fun hx => ?_) (fun hx => ?_)
    · have hx0 : xe = 0 := eq_of_beq hx
      subst hx0
      refine W_draw (pol := polL) Γok mixes [(0, .pend), (1, .pend), (2, .pend), (3, .pend), (4, .pend), (5, .pend), (6, .pendO), (7, .pendO), (8, .pendO), (9, .pendO), (10, .pendO), (11, .pendO), (12, .pendO), (13, .pendO), (14, .pendO), (15, .lock), (16, .pendO), (17, .pendO), (18, .pendH), (19, .pendO), (20, .lock), (21, .pendO)] 66 (by kernel_rfl) rfl ?_
      conv => whnf
      refine dec_intro (by omega) ?_
      conv => whnf
      refine ⟨_, Rd_part (hrd Hb _ (hsi.trans sb)) 1 1 (by omega) rfl, ?_⟩
      conv => whnf
      refine dec_intro (by omega) ?_
      conv => whnf
      refine ⟨_, Rd_part (hrd Hb _ (hsi.trans sb)) 1 1 (by omega) rfl, ?_⟩
      conv => whnf
      refine dec_intro bit0 ?_
      conv => whnf
      refine dec_intro (by omega) ?_
      conv => whnf
      have hbl : R.1[i].bits.toNat < acc.length := by omega
      have hst0 : bstep acc R.1[i] = if (AddR (acc[R.1[i].bits.toNat]) ((⟨xa, xb, xc, xd⟩ : P4), xk)).2 ≠ 0 then ([], (AddR (acc[R.1[i].bits.toNat]) ((⟨xa, xb, xc, xd⟩ : P4), xk)).2) else (acc.set R.1[i].bits.toNat (AddR (acc[R.1[i].bits.toNat]) ((⟨xa, xb, xc, xd⟩ : P4), xk)).1, 0) := by
        unfold bstep
        rw [hN, if_neg (by simp), show vAt acc R.1[i].bits.toNat = acc[R.1[i].bits.toNat] by simp [vAt, List.getD_eq_getElem?_getD, hbl]]
      refine ⟨cellsOf acc[R.1[i].bits.toNat], ⟨rfl, rfl, _, _, _, .inr (ins_same _ _ _), cellsN_at hbl⟩, ?_⟩
      conv => whnf
      refine (c105 acc[R.1[i].bits.toNat] ((⟨xa, xb, xc, xd⟩ : P4), xk) _).val fun Hc sc => ?_
      generalize AddR (acc[R.1[i].bits.toNat]) ((⟨xa, xb, xc, xd⟩ : P4), xk) = A at hst0 ⊢
      obtain ⟨⟨⟨ya, yb', yc', yd⟩, yk⟩, ye⟩ := A
      conv => whnf
      refine dec_intro bit0 ?_
      conv => whnf
      refine dec_intro (by omega) ?_
      conv => whnf
      refine ⟨_, _, ins_same _ _ _, ?_, ?_⟩
      · show 0 + R.1[i].bits.toNat * 5 + 5 ≤ (cellsN acc).length
        rw [cellsN_length]
        omega
      conv => whnf
      unfold bufO
      rw [ins_ins]
      have hset : (cellsN acc).take (0 + R.1[i].bits.toNat * 5) ++ [Value.int .i64 ya, .int .i64 yb', .int .i64 yc', .int .i64 yd, .int .i64 yk] ++ (cellsN acc).drop (0 + R.1[i].bits.toNat * 5 + ([Value.int .i64 ya, .int .i64 yb', .int .i64 yc', .int .i64 yd, .int .i64 yk]).length) = cellsN (acc.set R.1[i].bits.toNat ((⟨ya, yb', yc', yd⟩ : P4), yk)) := cellsN_set acc _ ((⟨ya, yb', yc', yd⟩ : P4), yk) hbl
      rw [hset]
      refine if_intro (fun hx => ?_) (fun hx => ?_)
      · have hy0 : ye ≠ 0 := neq_of hx
        conv => whnf
        rw [if_pos (show ((((⟨ya, yb', yc', yd⟩ : P4), yk), ye) : (P4 × Int) × Int).2 ≠ 0 from hy0)] at hst0
        rw [hpi, hst0, if_pos hy0]
        exact OutVO.bad
      · have hy0 : ye = 0 := eq_of_neq hx
        subst hy0
        rw [if_neg (by simp)] at hst0
        rw [hst0, if_neg (by simp)] at hpi
        conv => whnf
        refine ⟨(i + 1, Hc, acc.set R.1[i].bits.toNat ((⟨ya, yb', yc', yd⟩ : P4), yk)), ⟨hii, (hsi.trans sb).trans sc, by rw [List.length_set]; exact hli, hpi⟩, by dsimp only; omega, ?_⟩
        refine ⟨rfl, rfl, ?_⟩
        conv => whnf
        repeat (refine ⟨rfl, ?_⟩; conv => whnf)
        refine ⟨by show En.v (.int .i64 (IntKind.i64.wrap (i + 1))) = _; rw [wrap_id (by omega) (by omega)] <;> rfl, ?_⟩
        conv => whnf
        repeat (refine ⟨rfl, ?_⟩; conv => whnf)
        exact trivial
    · have hx0 : xe ≠ 0 := ne_of_beq_false hx
      have hst0 : bstep acc R.1[i] = ([], xe) := by
        unfold bstep
        rw [hN, if_pos hx0]
      rw [hst0, if_pos hx0] at hpi
      conv => whnf
      refine if_intro (fun hx => ?_) (fun hx => ?_)
      · conv => whnf
        rw [hpi]
        exact OutVO.bad
      · exact absurd (eq_of_neq hx) hx0
  have hii : i = R.1.length := by
    have := of_decide_eq_false hci
    omega
  subst hii
  rw [List.drop_length] at hpi
  conv => whnf
  rw [hpi]
  exact ⟨_, rfl, vec_own' (ins_same _ _ _) hli.symm⟩
end Go.Proofs.YtmhnalikebkhjaaGreatDoor
