/- A logic for code of the model, proved sound, and what functions do that the laws on matrices come to; nothing is asked. Part 6. -/
import Derived.Test.YtgbhgfdgifkdhaaGreatM5

set_option linter.unusedVariables false
set_option linter.unusedSimpArgs false
set_option linter.unnecessarySimpa false

namespace Go.Proofs.YtgbhgfdgifkdhaaGreat
open Go.Proofs.YtgbhgfdgifkdhaaGreat.X Go.Proofs.YtgbhgfdgifkdhaaGreat.X.PH
set_option maxRecDepth 100000
def okU (p : Mx) (n t:Nat):Bool:=eqN (entry p (t / n) (t % n)) (if t / n=t % n then oneN else (P4.zero,0))
theorem isUnit_no {p : Mx} {n i k:Nat} (hi:i < n) (hk:k < n) (h:okU p n (i*n+k)=false):isUnit p n=false:=by
  unfold isUnit
  rw[List.all_eq_false]
  refine⟨i*n+k,List.mem_range.2 ?_,?_⟩
  · have:=Nat.mul_le_mul_right n (show i+1≤n by omega)
    rw[Nat.succ_mul] at this
    omega
  · unfold okU at h
    rw[h]
    simp
theorem okU_at {p : Mx} {n i k:Nat} (hk:k < n):okU p n (i*n+k)=eqN (entry p i k) (if i=k then oneN else (P4.zero,0)):=by
  unfold okU
  rw[(divmod hk).1,(divmod hk).2]
set_option maxHeartbeats 1000000 in
theorem c59 (m : Mx) (H:PH) (u:Value) (hu:MatH H u m):Cl Tryz.prog 120 [u] H emp fun r _ _=>r=.tuple #[.bool (UnitaryR m).1,.int .i64 (UnitaryR m).2]:=by
  obtain⟨base,cap,rfl⟩:=hu.sl
  refine Cl_of (pol:=polL) Γok Tryz.func120 (by kernel_rfl) rfl ?_
  conv=>whnf
  unfold UnitaryR
  refine (c30 m _ _ hu).val fun H1 s1=>?_
  rw[← checkMF_checkMR]
  conv=>whnf
  refine if_intro (fun he=>?_) (fun he=>?_)
  · conv=>whnf
    rw[if_pos (show checkMF m ≠ 0 by simpa using he)]
  have he:checkMF m=0:=by simpa using he
  rw[if_neg (show ¬ checkMF m ≠ 0 by simpa using he)]
  have rm:=right_of he
  have hml:=rm.le
  have hmp:=rm.pos
  replace hu:=hu.up s1
  obtain⟨b,off,bb,cc,rfl,hrd0,_⟩:=hu.at rm.pos
  rw[← wideM_get rm.pos] at hrd0
  conv=>whnf
  refine dec_intro (by omega) ?_
  conv=>whnf
  refine⟨_,hrd0 _ _ (Sub.refl _),?_⟩
  conv=>whnf
  refine if_intro (fun hs=>?_) (fun hs=>?_)
  · conv=>whnf
    rw[if_pos (show m.length ≠ wideM m from fun e=>by rw[← e] at hs;simp at hs)]
  have hsq:m.length=wideM m:=by
    have:((m.length:Nat):Int)=((wideM m:Nat):Int):=by simpa using hs
    omega
  rw[if_neg (show ¬ m.length ≠ wideM m by simpa using hsq)]
  have hD:DaggerMR m=(gridM (daggerAtR m) (wideM m) m.length,0):=by rw[← DaggerM_eq];exact dagger_ok he
  conv=>whnf
  refine (c57 m _ _ hu).use fun r H2 s2 hr=>?_
  obtain⟨_,d,rfl,hd⟩:=hr
  rw[hD] at hd ⊢
  dsimp only at hd
  replace hu:=hu.up s2
  conv=>whnf
  refine (c36 (gridM (daggerAtR m) (wideM m) m.length) m _ _ _ hd hu).use fun r H3 s3 hr=>?_
  obtain⟨_,p,rfl,hp⟩:=hr
  change MatH H3 p (unitP m).1 at hp
  rw[show MulMR (gridM (daggerAtR m) (wideM m) m.length) m=unitP m from rfl]
  conv=>whnf
  refine if_intro (fun h=>?_) (fun h=>?_)
  · conv=>whnf
    rw[if_pos (show (unitP m).2 ≠ 0 by simpa using h)]
  have h2:(unitP m).2=0:=by simpa using h
  rw[if_neg (show ¬ (unitP m).2 ≠ 0 by simpa using h2)]
  obtain⟨p1,p2⟩:=unitP_ok he hsq h2
  obtain⟨rp,pw⟩:=grid_right (mulAtR (gridM (daggerAtR m) (wideM m) m.length) m) rm.pos rm.le rm.pos rm.le
  rw[← p1] at rp pw
  have pl:(unitP m).1.length=m.length:=by rw[p1];exact (gridM_shape _ _ _).1
  clear p1 p2 hD hd
  generalize (unitP m).1=P at *
  generalize m.length=n at *
  subst pl
  obtain⟨pb,pc,rfl⟩:=hp.sl
  conv=>whnf
  refine W_loop (pol:=polL) Γok (Nat × PH) (fun i=>i.1≤P.length∧Sub H3 i.2∧∀ t,t < i.1*P.length→okU P P.length t=true) (fun i=>P.length - i.1) (fun i=>[(9,.v (.int .i64 i.1))]) (fun _=>[]) (fun i=>i.2) (fun _=>emp) ⟨(0,H3),⟨by simp,Sub.refl _,by simp⟩,rfl,rfl,?_⟩ ?_
  · conv=>whnf
    repeat (refine⟨rfl,?_⟩;conv=>whnf)
    exact trivial
  · rintro ⟨i,H'⟩ ⟨h1,h2,h3⟩
    dsimp only at h1 h2 h3
    conv=>whnf
    refine if_intro (fun h=>?_) (fun h=>?_)
    · have hi:i < P.length:=by simpa using h
      obtain⟨b,off,bb,cc,rfl,hrd,hn⟩:=(hp.up h2).at hi
      have hwi:P[i].length=P.length:=by rw[rp.row _ (List.getElem_mem hi),pw]
      conv=>whnf
      refine W_loopX (pol:=polL) Γok (Nat × PH) (fun k=>k.1≤P.length∧Sub H' k.2∧∀ t,t < i*P.length+k.1→okU P P.length t=true) (fun k=>P.length - k.1) (fun e k=>e=.exit 2∧Sub H' k.2∧∀ t,t < (i+1)*P.length→okU P P.length t=true) (fun k=>[(10,.v (.int .i64 k.1))]) (fun _=>[]) (fun k=>k.2) (fun _=>emp) ⟨(0,H'),⟨by simp,Sub.refl _,by simpa using h3⟩,rfl,rfl,?_⟩ ?_ ?_
      · conv=>whnf
        repeat (refine⟨rfl,?_⟩;conv=>whnf)
        exact trivial
      · rintro ⟨k,H4⟩ ⟨k1,k2,k3⟩
        dsimp only at k1 k2 k3
        conv=>whnf
        refine if_intro (fun h=>?_) (fun h=>?_)
        · have hk:k < P.length:=by simpa using h
          obtain⟨b1,off1,rfl,hx⟩:=hn.at (i:=k) (by omega)
          have hent:entry P i k=P[i][k]:=entry_get hi (by omega)
          have hok:=okU_at (p:=P) (i:=i) hk
          rw[hent] at hok
          conv=>whnf
          intro bw
          conv=>whnf
          refine if_intro (fun hik=>?_) (fun hik=>?_)
          · have hik:i=k:=by
              have:(i:Int)=k:=by simpa using hik
              omega
            rw[if_pos hik] at hok
            conv=>whnf
            refine W_draw (pol:=polL) Γok mixes [(0,.pendO),(1,.pendO),(2,.pendO),(3,.pendO),(4,.pendO),(5,.pendO),(6,.pendO),(7,.pendO),(8,.pendO)] 64 (by kernel_rfl) rfl ?_
            conv=>whnf
            refine dec_intro (by omega) ?_
            conv=>whnf
            refine⟨_,hrd _ _ k2,?_⟩
            conv=>whnf
            refine dec_intro (by omega) ?_
            conv=>whnf
            refine⟨_,hx _ _ k2,?_⟩
            conv=>whnf
            refine if_intro (fun hq=>?_) (fun hq=>?_)
            · have hq:eqN P[i][k] oneN=false:=(Bool.not_eq_true' _).mp hq
              conv=>whnf
              refine .inl ?_
              conv=>whnf
              rw[isUnit_no hi hk (hok.trans hq)]
            · have hq:eqN P[i][k] oneN=true:=(Bool.not_eq_false' ..).mp hq
              conv=>whnf
              refine⟨(k+1,H4),⟨hk,k2,fun t ht=>?_⟩,by dsimp only;omega,?_⟩
              · rcases Nat.lt_or_ge t (i*P.length+k) with h | h
                · exact k3 t h
                · rw[show t=i*P.length+k by dsimp only at ht;omega,hok,hq]
              conv=>whnf
              refine⟨rfl,rfl,?_⟩
              conv=>whnf
              repeat (refine⟨rfl,?_⟩;conv=>whnf)
              refine⟨by show En.v (.int .i64 (IntKind.i64.wrap (k+1)))=_;rw[wrap_id (by omega) (by omega)];rfl,?_⟩
              conv=>whnf
              repeat (refine⟨rfl,?_⟩;conv=>whnf)
              exact trivial
          · have hik:i ≠ k:=by
              have:¬ (i:Int)=k:=by simpa using hik
              omega
            rw[if_neg hik] at hok
            conv=>whnf
            refine W_draw (pol:=polL) Γok mixes [(0,.pendO),(1,.pendO),(2,.pendO),(3,.pendO),(4,.pendO),(5,.pendO),(6,.pendO),(7,.pendO),(8,.pendO)] 64 (by kernel_rfl) rfl ?_
            conv=>whnf
            refine dec_intro (by omega) ?_
            conv=>whnf
            refine⟨_,hrd _ _ k2,?_⟩
            conv=>whnf
            refine dec_intro (by omega) ?_
            conv=>whnf
            refine⟨_,hx _ _ k2,?_⟩
            conv=>whnf
            refine if_intro (fun hq=>?_) (fun hq=>?_)
            · have hq:eqN P[i][k] (P4.zero,0)=false:=(Bool.not_eq_true' _).mp hq
              conv=>whnf
              refine .inl ?_
              conv=>whnf
              rw[isUnit_no hi hk (hok.trans hq)]
            · have hq:eqN P[i][k] (P4.zero,0)=true:=(Bool.not_eq_false' ..).mp hq
              conv=>whnf
              refine⟨(k+1,H4),⟨hk,k2,fun t ht=>?_⟩,by dsimp only;omega,?_⟩
              · rcases Nat.lt_or_ge t (i*P.length+k) with h | h
                · exact k3 t h
                · rw[show t=i*P.length+k by dsimp only at ht;omega,hok,hq]
              conv=>whnf
              refine⟨rfl,rfl,?_⟩
              conv=>whnf
              repeat (refine⟨rfl,?_⟩;conv=>whnf)
              refine⟨by show En.v (.int .i64 (IntKind.i64.wrap (k+1)))=_;rw[wrap_id (by omega) (by omega)];rfl,?_⟩
              conv=>whnf
              repeat (refine⟨rfl,?_⟩;conv=>whnf)
              exact trivial
        · have hk:P.length=k:=by
            have:¬ k < P.length:=by simpa using h
            omega
          conv=>whnf
          refine .inr ⟨(k,H4),⟨rfl,k2,?_⟩,?_⟩
          · rw[← hk] at k3
            rw[Nat.succ_mul]
            exact k3
          · conv=>whnf
            refine⟨rfl,rfl,?_⟩
            conv=>whnf
            repeat (refine⟨rfl,?_⟩;conv=>whnf)
            exact trivial
      · rintro e ⟨k,H4⟩ ⟨rfl,k2,k3⟩
        dsimp only at k2 k3
        conv=>whnf
        refine⟨(i+1,H4),⟨hi,h2.trans k2,k3⟩,by dsimp only;omega,?_⟩
        conv=>whnf
        refine⟨rfl,rfl,?_⟩
        conv=>whnf
        repeat (refine⟨rfl,?_⟩;conv=>whnf)
        refine⟨by show En.v (.int .i64 (IntKind.i64.wrap (i+1)))=_;rw[wrap_id (by omega) (by omega)];rfl,?_⟩
        conv=>whnf
        repeat (refine⟨rfl,?_⟩;conv=>whnf)
        exact trivial
    · have hi:P.length=i:=by
        have:¬ i < P.length:=by simpa using h
        omega
      conv=>whnf
      rw[← hi] at h3
      rw[show isUnit P P.length=true from List.all_eq_true.2 fun t ht=>h3 t (List.mem_range.1 ht)]
theorem c10 (m : Mx) (hlm:m.length < 9223372036854775808) (H:PH) (u:Value) (hu:MatH H u m):Cl Tryz.prog 49 [u] H emp fun r _ _=>r=.bool true:=by
  obtain⟨base,cap,rfl⟩:=hu.sl
  refine Cl_of (pol:=fun | 17=>.imm | _=>.loc) Γok Tryz.func49 (by kernel_rfl) rfl ?_
  conv=>whnf
  intro b hb _
  conv=>whnf
  have s1:=sub_ins H (.cells ⟨[.slice base m.length cap]⟩ 23 (0,0)) hb
  refine (c13 [m] (by simp) (by simp;omega) _ _ (one_mats (ins_same _ _ _) (hu.up s1))).val fun H1 s2=>?_
  conv=>whnf
  refine if_intro (fun hg=>?_) (fun hg=>?_)
  · conv=>whnf
    refine (c14 _).val fun H2 s3=>?_
    conv=>whnf
  obtain⟨hm8,hmr⟩:=big_le hg m (by simp)
  have hu1:=(hu.up s1).up s2
  clear hu
  conv=>whnf
  refine (c15' m _ _ hu1 (by omega) (fun r hr=>by have:=hmr r hr;omega)).use fun p H2 s3 hp=>?_
  obtain⟨_,hp⟩:=hp
  replace hu1:=hu1.up s3
  conv=>whnf
  refine (c57 m _ _ hu1).use fun r H3 s4 hr=>?_
  obtain⟨_,w1,rfl,hw1⟩:=hr
  replace hu1:=hu1.up s4
  replace hp:=hp.up s4
  conv=>whnf
  refine (c58 m (by omega) _ _ hu1).val fun H4 s5=>?_
  replace hu1:=hu1.up s5
  replace hp:=hp.up s5
  replace hw1:=hw1.up s5
  conv=>whnf
  intro b6
  conv=>whnf
  refine (c59 m _ _ hu1).val fun H5 s6=>?_
  replace hu1:=hu1.up s6
  replace hp:=hp.up s6
  replace hw1:=hw1.up s6
  conv=>whnf
  have k1:OwnL emp emp []:=Sub.refl _
  have h53:=k1.call (c53 m (by omega) _ _ hp)
  rw[DaggerM_eq] at h53
  refine h53.mono fun r H6 O6 s7 hr=>?_
  obtain⟨a1,rfl,k2⟩:=hr
  replace hu1:=hu1.up s7
  replace hp:=hp.up s7
  replace hw1:=hw1.up s7
  clear h53 k1
  conv=>whnf
  refine (c60 m (by omega) _ _ hp).val fun H7 s8=>?_
  replace hu1:=hu1.up s8
  replace hp:=hp.up s8
  replace hw1:=hw1.up s8
  conv=>whnf
  intro b12
  conv=>whnf
  refine (c61 m (by omega) _ _ hp).val fun H8 s9=>?_
  replace hu1:=hu1.up s9
  replace hp:=hp.up s9
  replace hw1:=hw1.up s9
  generalize DaggerMR m=D at *
  generalize TraceF m=T at *
  generalize UnitaryR m=U at *
  replace k2:OwnL emp O6 [(a1,D.1)]:=k2
  conv=>whnf
  rw[bne_self_eq_false]
  conv=>whnf
  rw[bne_self_eq_false]
  conv=>whnf
  rw[bne_self_eq_false]
  conv=>whnf
  refine (c23L k2 (by simp) hw1).mono fun r H9 O9 s10 hr=>?_
  obtain⟨o1,rfl⟩:=hr
  replace k2:=k2.up o1
  conv=>whnf
  rw[eqCells_nv T.1]
  conv=>whnf
  have bq:(U.1 == U.1)=true:=beq_self_eq_true U.1
  rw[bq]
  conv=>whnf
  refine (c24L k2).mono fun r H10 O10 s11 k3=>?_
  conv=>whnf
  have hmr':∀ r∈m,r.length < 9223372036854775808:=fun r hr=>by have:=hmr r hr;omega
  refine (c23 m m _ _ _ (hp.up (s10.trans s11)) (hu1.up (s10.trans s11)) (by omega) hmr').val fun H11 s12=>?_
  rw[eqM_refl]
  conv=>whnf
  refine (c14 _).val fun H12 s13=>?_
  conv=>whnf
end Go.Proofs.YtgbhgfdgifkdhaaGreat

namespace Go.Proofs.YtgbhgfdgifkdhaaGreat
open Go.Proofs.YtgbhgfdgifkdhaaGreat.X Go.Proofs.YtgbhgfdgifkdhaaGreat.X.PH
set_option maxRecDepth 100000
abbrev stC (v : Value) (n:Nat) (s:Int):Obj:=.cells ⟨[v,.int .i64 n,.int .u32 s]⟩ 88 (0,0)
def BytesH (H : PH) (v:Value) (l:List Int):Prop:=SlH H v l.length (l.map fun x=>.int .u8 x)
theorem BytesH.at {H : PH} {base:Option Addr} {n cap:Nat} {l:List Int} (h:BytesH H (.slice base n cap) l) {i:Nat} (hi:i < l.length) :
    ∃ b off,base=some ⟨b,off,none⟩∧∀ H' O,Sub H H'→Rd H' O ⟨b,off+i*1,none⟩ 1 [.int .u8 l[i]]:=by
  obtain⟨_,_,hv,_⟩:=id h
  cases hv
  obtain⟨b,off,hb,hrd⟩:=SlH.rd (O:=emp) (sz:=1) h (by simp) hi
  have e:(List.take 1 (List.drop (i*1) (l.map fun x=>Value.int .u8 x)))=[.int .u8 l[i]]:=by
    rw[Nat.mul_one,List.drop_eq_getElem_cons (by simpa using hi)];simp
  rw[e] at hrd
  exact⟨b,off,hb,fun _ _ hs=>Rd_up hrd hs⟩
end Go.Proofs.YtgbhgfdgifkdhaaGreat

namespace Go.Proofs.YtgbhgfdgifkdhaaGreat
open Go.Proofs.YtgbhgfdgifkdhaaGreat.X Go.Proofs.YtgbhgfdgifkdhaaGreat.X.PH
set_option maxRecDepth 100000
def lv (N : Nat) (x:P4 × Int):P4:=rz (N - x.2.toNat) x.1
structure LV (N : Nat) (M:Int) (x:P4 × Int):Prop where
  ok:checkF x.1 x.2=0
  le:x.2≤N
  small:(lv N x).within M
theorem tw_inj {p q : P4} (h:tw p=tw q):p=q:=by
  unfold tw at h
  injection h with h1 h2 h3 h4
  apply P4.ext'<;>omega
theorem rz_inj {p q : P4}:∀ n,rz n p=rz n q→p=q
  | 0,h=>h
  | n+1,h=>rz_inj n (tw_inj h)
theorem evenR_tw (q : P4):evenR (tw q)=true:=by
  rw[evenR_iff]
  unfold tw
  dsimp only
  omega
theorem IsL.odd {x : P4 × Int} (h:IsL x) (hz:x.1.isZero=false):x.2=0∨evenR x.1=false:=by
  obtain⟨h0,h1,h2⟩:=right_in h.ok
  have hf:=h.form
  rw[formR_eq h0 hz] at hf
  rcases Int.lt_or_eq_of_le h0 with hp | hp
  rotate_left
  · exact .inl hp.symm
  refine .inr ?_
  cases he:evenR x.1 with
  | false=>rfl
  | true=>
    exfalso
    have e2:=congrArg Prod.snd hf
    dsimp only at e2
    obtain⟨k,hk⟩:∃ k,x.2.toNat=k+1:=⟨x.2.toNat - 1,by omega⟩
    rw[hk] at e2
    unfold lowerR at e2
    rw[he] at e2
    simp only[if_true] at e2
    have:=lowerR_le k (halvedR x.1)
    omega
theorem IsL.zero {x : P4 × Int} (h:IsL x) (hz:x.1.isZero=true):x=(P4.zero,0):=by
  have hf:=h.form
  unfold formR at hf
  rw[hz] at hf
  simp only[if_true] at hf
  exact hf.symm
theorem IsL.ext {x y : P4 × Int} {N:Nat} (hx:IsL x) (hy:IsL y) (hxN:x.2≤N) (hyN:y.2≤N) (h:lv N x=lv N y):x=y:=by
  obtain⟨x0,x1,x2⟩:=right_in hx.ok
  obtain⟨y0,y1,y2⟩:=right_in hy.ok
  have key:∀ {u v:P4 × Int},IsL u→IsL v→0≤u.2→v.2≤N→u.2≤v.2→lv N u=lv N v→u=v:=by
    intro u v hu hv u0 hvN huv huv'
    have e:rz (v.2.toNat - u.2.toNat) u.1=v.1:=by
      apply rz_inj (N - v.2.toNat)
      rw[← rz_add]
      unfold lv at huv'
      rw[← huv']
      congr 1
      omega
    cases hz:v.1.isZero with
    | true=>
      have h1:u.1.isZero=true:=by
        rw[← rz_isZero (v.2.toNat - u.2.toNat),e,hz]
      rw[hu.zero h1,hv.zero hz]
    | false=>
      rcases hv.odd hz with h1 | h1
      · have:u.2=v.2:=by omega
        rw[this,Nat.sub_self] at e
        exact Prod.ext e this
      · rcases Int.lt_or_eq_of_le huv with hlt | heq
        · exfalso
          rw[show v.2.toNat - u.2.toNat=(v.2.toNat - u.2.toNat - 1)+1 by omega] at e
          have:evenR v.1=true:=by rw[← e];exact evenR_tw _
          rw[h1] at this
          cases this
        · rw[heq,Nat.sub_self] at e
          exact Prod.ext e heq
  rcases Int.le_total x.2 y.2 with hle | hle
  · exact key hx hy x0 hyN hle h
  · exact (key hy hx y0 hxN hle h.symm).symm
end Go.Proofs.YtgbhgfdgifkdhaaGreat

namespace Go.Proofs.YtgbhgfdgifkdhaaGreat
open Go.Proofs.YtgbhgfdgifkdhaaGreat.X Go.Proofs.YtgbhgfdgifkdhaaGreat.X.PH
set_option maxRecDepth 100000
theorem LV.mono {N : Nat} {A B:Int} {x:P4 × Int} (h:LV N A x) (hAB:A≤B):LV N B x:=⟨h.ok,h.le,within_mono h.small hAB⟩
def ev (N : Nat) (m:Mx) (i k:Nat):P4:=lv N (entry m i k)
structure MV (N : Nat) (A:Int) (m:Mx) (h w:Nat):Prop where
  right:Right m
  len:m.length=h
  wid:wideM m=w
  el:∀ i k,i < h→k < w→LV N A (entry m i k)
end Go.Proofs.YtgbhgfdgifkdhaaGreat

namespace Go.Proofs.YtgbhgfdgifkdhaaGreat
open Go.Proofs.YtgbhgfdgifkdhaaGreat.X Go.Proofs.YtgbhgfdgifkdhaaGreat.X.PH
set_option maxRecDepth 100000
def StO (H O : PH) (b N:Nat):Prop:=∃ v l n s,BytesH H v l∧l.length≤300∧n≤N∧(0≤s∧s < 4294967296)∧O b=some (stC v n s)
theorem StO.up {H H' O : PH} {b N:Nat} (h:StO H O b N) (hs:Sub H H'):StO H' O b N:=by
  obtain⟨v,l,n,s,h1,h2⟩:=h
  exact⟨v,l,n,s,SlH.up h1 hs,h2⟩
theorem StO.keep {H O O' : PH} {b N:Nat} (h:StO H O b N) (hk:∀ c,O b=some (.cells c 88 (0,0))→O' b=some (.cells c 88 (0,0))):StO H O' b N:=by
  obtain⟨v,l,n,s,h1,h2,h3,h4,h5⟩:=h
  exact⟨v,l,n,s,h1,h2,h3,h4,hk _ h5⟩
theorem StO.mono {H O : PH} {b N N':Nat} (h:StO H O b N) (hN:N≤N'):StO H O b N':=by
  obtain⟨v,l,n,s,h1,h2,h3,h4,h5⟩:=h
  exact⟨v,l,n,s,h1,h2,by omega,h4,h5⟩
def StP (H' O O' : PH) (b N:Nat):Prop:=(∃ o,O'=ins O b o)∧StO H' O' b N
theorem StP.other {H' O O' : PH} {b N:Nat} (h:StP H' O O' b N) {n:Nat} (hn:n ≠ b):O' n=O n:=by
  obtain⟨⟨o,rfl⟩,_⟩:=h
  exact ins_ne _ _ hn
theorem StP.refl {H O : PH} {b N:Nat} (h:StO H O b N):StP H O O b N:=by
  obtain⟨v,l,n,s,h1,h2,h3,h4,h5⟩:=id h
  refine⟨⟨_,(funext fun k=>?_:O=ins O b (stC v n s))⟩,h⟩
  by_cases e:k=b
  · subst e;rw[ins_same,h5]
  · rw[ins_ne _ _ e]
theorem StP.trans {H1 H2 O O1 O2 : PH} {b N M:Nat} (h:StP H1 O O1 b N) (k:StP H2 O1 O2 b M):StP H2 O O2 b M:=by
  obtain⟨⟨o,rfl⟩,_⟩:=h
  obtain⟨⟨o',rfl⟩,k2⟩:=k
  exact⟨⟨o',ins_ins _ _ _ _⟩,k2⟩
theorem StP.up {H' H'' O O' : PH} {b N:Nat} (h:StP H' O O' b N) (hs:Sub H' H''):StP H'' O O' b N:=⟨h.1,h.2.up hs⟩
end Go.Proofs.YtgbhgfdgifkdhaaGreat

namespace Go.Proofs.YtgbhgfdgifkdhaaGreat
open Go.Proofs.YtgbhgfdgifkdhaaGreat.X Go.Proofs.YtgbhgfdgifkdhaaGreat.X.PH
set_option maxRecDepth 100000
theorem StO.ne {H O : PH} {b N:Nat} (h:StO H O b N) {n:Nat} {c:Array Value} {t:TypeId} (hn:O n=some (.cells c t (0,0))) (ht:t ≠ 88):n ≠ b:=by
  rintro rfl
  obtain⟨_,_,_,_,_,_,_,_,h5⟩:=h
  rw[hn] at h5
  injection h5 with h5
  injection h5 with _ h5
  exact ht h5
theorem StP.owns {H H' O O' : PH} {b N M sz:Nat} {t:TypeId} {v:Value} {xs:List (List Value)} (h:StO H O b N) (k:StP H' O O' b M) (ht:t ≠ 88) (ho:OwnS O sz t v xs):OwnS O' sz t v xs:=
  OwnS.keep ho fun _ _ hn=>(k.other (h.ne hn ht)).trans hn
end Go.Proofs.YtgbhgfdgifkdhaaGreat

namespace Go.Proofs.YtgbhgfdgifkdhaaGreat
open Go.Proofs.YtgbhgfdgifkdhaaGreat.X Go.Proofs.YtgbhgfdgifkdhaaGreat.X.PH
set_option maxRecDepth 100000
theorem MV.mono {N : Nat} {A B:Int} {m:Mx} {h w:Nat} (v:MV N A m h w) (hAB:A≤B):MV N B m h w:=⟨v.right,v.len,v.wid,fun i k hi hk=>(v.el i k hi hk).mono hAB⟩
end Go.Proofs.YtgbhgfdgifkdhaaGreat

namespace Go.Proofs.YtgbhgfdgifkdhaaGreat
open Go.Proofs.YtgbhgfdgifkdhaaGreat.X Go.Proofs.YtgbhgfdgifkdhaaGreat.X.PH
set_option maxRecDepth 100000
theorem MV.lens {N : Nat} {A:Int} {m:Mx} {h w:Nat} (v:MV N A m h w):m.length < 1000000∧(∀ r∈m,r.length < 9223372036854775808):=by
  have rm:=v.right
  have:=rm.le
  have hw:=rm.wle
  exact⟨by omega,fun r hr=>by rw[rm.row r hr];omega⟩
theorem nat_of {a : Int} (h:0≤a):∃ n:Nat,a=n:=⟨a.toNat,by omega⟩
end Go.Proofs.YtgbhgfdgifkdhaaGreat

namespace Go.Proofs.YtgbhgfdgifkdhaaGreat
open Go.Proofs.YtgbhgfdgifkdhaaGreat.X Go.Proofs.YtgbhgfdgifkdhaaGreat.X.PH
set_option maxRecDepth 100000
end Go.Proofs.YtgbhgfdgifkdhaaGreat

namespace Go.Proofs.YtgbhgfdgifkdhaaGreat
open Go.Proofs.YtgbhgfdgifkdhaaGreat.X Go.Proofs.YtgbhgfdgifkdhaaGreat.X.PH
set_option maxRecDepth 100000
structure RowsS (M : PH) (us:List Value) (m:Mx):Prop where
  len:us.length=m.length
  row:∀ (i:Nat) (u:Value) (r:List (P4 × Int)),us[i]?=some u→m[i]?=some r→NumO M u r
  apart:∀ (i j:Nat) (b n c n' c':Nat),us[i]?=some (.slice (some ⟨b,0,none⟩) n c)→us[j]?=some (.slice (some ⟨b,0,none⟩) n' c')→i=j
theorem RowsS.keep {M M' : PH} {us:List Value} {m:Mx} (h:RowsS M us m) (hk:∀ (n:Nat) cs,M n=some (.cells cs 33 (0,0))→M' n=some (.cells cs 33 (0,0))):RowsS M' us m:=
  ⟨h.len,fun i u r hu hr=>OwnS.keep (h.row i u r hu hr) hk,h.apart⟩
theorem RowsS.snoc {M N : PH} {us:List Value} {m:Mx} {u:Value} {r:List (P4 × Int)} (h:RowsS M us m) (hd:Dis N M) (hu:NumO N u r):RowsS (un N M) (us++[u]) (m++[r]):=by
  refine⟨by simp[h.len],fun i u' r' hu' hr'=>?_,fun i j b n c n' c' hi hj=>?_⟩
  · rcases Nat.lt_trichotomy i m.length with hi | hi | hi
    · rw[List.getElem?_append_left (by rw[h.len];exact hi)] at hu'
      rw[List.getElem?_append_left hi] at hr'
      exact OwnS.keep (h.row i u' r' hu' hr') fun n cs hn=>un_right hd hn
    · subst hi
      rw[← h.len,List.getElem?_concat_length] at hu'
      rw[List.getElem?_concat_length] at hr'
      cases hu'
      cases hr'
      exact OwnS.keep hu fun n cs hn=>un_l n _ hn
    · rw[List.getElem?_eq_none (by simp;omega)] at hr'
      cases hr'
  · have old:∀ (i b n c:Nat),us[i]?=some (.slice (some ⟨b,0,none⟩) n c)→M b ≠ none:=by
      intro i b n c hi
      have hl:=(List.getElem?_eq_some_iff.1 hi).1
      have hl':i < m.length:=by rw[← h.len];exact hl
      rcases (h.row i _ _ hi (List.getElem?_eq_getElem hl')).2 with⟨e,_⟩ | ⟨b',cap,spare,e,hO,_⟩
      · cases e
      · cases e;rw[hO];simp
    have new:∀ (b n c:Nat),u=.slice (some ⟨b,0,none⟩) n c→N b ≠ none:=by
      intro b n c e
      rcases hu.2 with⟨e',_⟩ | ⟨b',cap,spare,e',hO,_⟩
      · rw[e] at e';cases e'
      · rw[e] at e';cases e';rw[hO];simp
    have pos:∀ (i:Nat) (v:Value),(us++[u])[i]?=some v→(i < us.length∧us[i]?=some v)∨(i=us.length∧u=v):=by
      intro i v hv
      rcases Nat.lt_trichotomy i us.length with hl | hl | hl
      · rw[List.getElem?_append_left hl] at hv
        exact .inl ⟨hl,hv⟩
      · subst hl
        rw[List.getElem?_concat_length] at hv
        cases hv
        exact .inr ⟨rfl,rfl⟩
      · rw[List.getElem?_eq_none (by simp;omega)] at hv
        cases hv
    rcases pos _ _ hi with⟨l1,e1⟩ | ⟨l1,e1⟩<;>rcases pos _ _ hj with⟨l2,e2⟩ | ⟨l2,e2⟩
    · exact h.apart i j b n c n' c' e1 e2
    · exact absurd ((hd b).resolve_left (new _ _ _ e2)) (old _ _ _ _ e1)
    · exact absurd ((hd b).resolve_left (new _ _ _ e1)) (old _ _ _ _ e2)
    · omega
theorem RowsS.share {H M : PH} (hd:Dis H M) {v:Value} {us:List Value} {m:Mx} (h:OwnS M 1 31 v (us.map fun u=>[u])) (hr:RowsS M us m):MatH (un H M) v m:=by
  refine⟨us,hr.len,?_,fun i r u hr' hu=>NumO.share (hr.row i u r hu hr') hd⟩
  have hl:=hr.len
  rcases h.2 with⟨rfl,h0⟩ | ⟨b,cap,spare,rfl,hO,hcap,hsp⟩
  · have:us=[]:=by simpa using h0
    subst this
    exact⟨none,0,by rw[← hl];rfl,.inl ⟨hl.symm,rfl⟩⟩
  · refine⟨some ⟨b,0,none⟩,cap,by simp[hl],.inr ⟨b,0,_,_,_,rfl,un_right hd hO,?_⟩⟩
    have:∀ us:List Value,(us.map fun u=>[u]).flatten=us:=by
      intro us
      induction us with
      | nil=>rfl
      | cons u us ih=>simp only[List.map_cons,List.flatten_cons,ih];rfl
    rw[this us]
    simp
end Go.Proofs.YtgbhgfdgifkdhaaGreat

namespace Go.Proofs.YtgbhgfdgifkdhaaGreat
open Go.Proofs.YtgbhgfdgifkdhaaGreat.X Go.Proofs.YtgbhgfdgifkdhaaGreat.X.PH
set_option maxRecDepth 100000
end Go.Proofs.YtgbhgfdgifkdhaaGreat

namespace Go.Proofs.YtgbhgfdgifkdhaaGreat
open Go.Proofs.YtgbhgfdgifkdhaaGreat.X Go.Proofs.YtgbhgfdgifkdhaaGreat.X.PH
set_option maxRecDepth 100000
theorem Cl.own {P : Program} {f:FuncId} {args:List Value} {H M:PH} {Q:Value→PH→PH→Prop} (h:Cl P f args H M Q) :
    Cl P f args H M fun v H2 M2=>H2=H∧∃ H' M',Q v H' M'∧Sub H H'∧Dis H' M'∧Sub M' M2∧∀ n o,H n=none→H' n=some o→M2 n=some o:=by
  unfold Cl at *
  refine⟨h.1,fun w hH hM hd=>(h.2 w hH hM hd).mono ?_⟩
  rintro e w' ⟨v,H',M',he,p,hq⟩
  have hMn:∀ n o,M' n=some o→H n=none:=fun n o hn=>by
    cases e:H n with
    | none=>rfl
    | some o'=>
      have h1:=p.sub n o' e
      rcases p.dis n with h2 | h2
      · rw[h1] at h2;cases h2
      · rw[hn] at h2;cases h2
  refine⟨v,H,fun n=>match H n with | some _=>none | none=>un H' M' n,he,⟨Sub.refl H,In.sub p.inH p.sub,?_,?_,?_,p.frm⟩,rfl,H',M',hq,p.sub,p.dis,?_,?_⟩
  · intro n o hn
    dsimp only at hn
    cases e:H n with
    | some o'=>rw[e] at hn;cases hn
    | none=>
      rw[e] at hn
      dsimp only at hn
      unfold un at hn
      cases e':H' n with
      | some o'=>rw[e'] at hn;cases hn;exact p.inH n _ e'
      | none=>rw[e'] at hn;exact p.inM n _ hn
  · intro n
    cases e:H n with
    | none=>exact .inl rfl
    | some o=>exact .inr (by simp[e])
  · intro n hn hm
    obtain⟨h1,h2⟩:=p.old n hn hm
    refine⟨rfl,?_⟩
    cases e:H n with
    | some o=>simp[e]
    | none=>
      rw[e] at h1
      simp[e,un,h1,h2]
  · intro n o hn
    have h1:=hMn n o hn
    have h2:H' n=none:=(p.dis n).resolve_right (by rw[hn];simp)
    simp[h1,un,h2,hn]
  · intro n o h1 h2
    simp[h1,un,h2]
structure HalfM (O : PH) (b0 h w:Nat) (bs:List Nat) (m:Mx):Prop where
  rows:RowsO O bs m
  nb:b0 ∉ bs
  list:O b0=some (.cells ⟨bs.map (fun b=>rowV b w)++List.replicate (h - bs.length) (.slice none 0 0)⟩ 31 (0,0))
  wid:∀ (i:Nat) r,m[i]?=some r→r.length=w
theorem HalfM.start (b0 h w : Nat) (O:PH):HalfM (ins O b0 (.cells ⟨(List.replicate h [Value.slice none 0 0]).flatten⟩ 31 (0,0))) b0 h w [] []:=by
  refine⟨⟨rfl,List.nodup_nil,by simp⟩,by simp,?_,by simp⟩
  rw[ins_same]
  simp
theorem HalfM.ne {O : PH} {b0 h w:Nat} {bs:List Nat} {m:Mx} (g:HalfM O b0 h w bs m) {b:Nat} (hb:O b=none):b0 ≠ b:=fun e=>by
  subst e
  rw[g.list] at hb
  cases hb
theorem HalfM.row {O : PH} {b0 h w:Nat} {bs:List Nat} {m:Mx} (g:HalfM O b0 h w bs m) {i:Nat} (hi:i=bs.length) (hl:i < h) {b:Nat} (hb:O b=none) :
    ∃ cs,ins O b (.cells ⟨(List.replicate w [.int .i64 0,.int .i64 0,.int .i64 0,.int .i64 0,.int .i64 0]).flatten⟩ 33 (0,0)) b0=some (.cells ⟨cs⟩ 31 (0,0))∧0+i*1+1≤cs.length ∧
      HalfM (ins (ins O b (.cells ⟨(List.replicate w [.int .i64 0,.int .i64 0,.int .i64 0,.int .i64 0,.int .i64 0]).flatten⟩ 33 (0,0))) b0 (.cells ⟨cs.take (0+i*1)++[rowV b w]++cs.drop (0+i*1+1)⟩ 31 (0,0))) b0 h w (bs++[b]) (m++[zeros w]):=by
  have hne:=g.ne hb
  have hcz:(List.replicate w [.int .i64 0,.int .i64 0,.int .i64 0,.int .i64 0,.int .i64 0]).flatten=cellsN (zeros w):=by
    unfold cellsN zeros
    rw[List.map_replicate]
    rfl
  rw[hcz]
  refine⟨_,(ins_ne _ _ hne).trans g.list,by simp;omega,⟨?_,?_,?_,?_⟩⟩
  · refine (g.rows.snoc hb).other ?_
    have:=g.nb
    simp[this,hne]
  · have:=g.nb
    simp[this,hne]
  · rw[ins_same]
    have:=set_at (bs.map fun b=>rowV b w) (.slice none 0 0) (rowV b w) (i:=i) (h:=h) (by simpa using hi.symm) hl
    rw[hi] at this ⊢
    rw[this]
    simp
  · intro j r hr
    rcases Nat.lt_trichotomy j m.length with hj | hj | hj
    · rw[List.getElem?_append_left hj] at hr
      exact g.wid j r hr
    · subst hj
      rw[List.getElem?_concat_length] at hr
      cases hr
      simp[zeros]
    · rw[List.getElem?_eq_none (by simp;omega)] at hr
      cases hr
theorem HalfM.at {O : PH} {b0 h w:Nat} {bs:List Nat} {m:Mx} (g:HalfM O b0 h w bs m) {i:Nat} (hi:i < m.length) (H:PH) :
    ∃ b,bs[i]?=some b∧b ≠ b0∧m[i].length=w∧O b=some (.cells ⟨cellsN m[i]⟩ 33 (0,0))∧Rd H O ⟨b0,0+i*1,none⟩ 1 [.slice (some ⟨b,0,none⟩) w w]:=by
  have hib:i < bs.length:=by rw[g.rows.len];exact hi
  refine⟨bs[i],List.getElem?_eq_getElem hib,fun e=>g.nb (by rw[← e];exact List.getElem_mem hib),g.wid _ _ (List.getElem?_eq_getElem hi),g.rows.cells _ _ _ (List.getElem?_eq_getElem hib) (List.getElem?_eq_getElem hi),rfl,rfl,_,_,_,.inr g.list,?_⟩
  dsimp only
  rw[Nat.zero_add,Nat.mul_one,List.drop_append_of_le_length (by simpa using Nat.le_of_lt hib),List.drop_eq_getElem_cons (by simpa using hib)]
  simp[rowV]
theorem cellsN_setA : ∀ (r:List (P4 × Int)) (k:Nat) (a:Int) (hk:k < r.length),(cellsN r).take (0+k*5+0)++[.int .i64 a]++(cellsN r).drop (0+k*5+0+1)=cellsN (r.set k ((⟨a,r[k].1.b,r[k].1.c,r[k].1.d⟩:P4),r[k].2))
  | y::r,0,a,_=>by
    simp only[cellsN,List.set_cons_zero,List.map_cons,List.flatten_cons]
    rfl
  | y::r,k+1,a,h=>by
    have ih:=cellsN_setA r k a (by simpa using h)
    simp only[cellsN,List.set_cons_succ,List.map_cons,List.flatten_cons,List.getElem_cons_succ] at ih ⊢
    rw[← ih]
    have e:0+(k+1)*5+0=(0+k*5+0)+5:=by omega
    have e2:0+(k+1)*5+0+1=(0+k*5+0+1)+5:=by omega
    rw[e2,e]
    simp[cellsOf,List.take_succ_cons]
theorem HalfM.upd {O : PH} {b0 h w:Nat} {bs:List Nat} {m:Mx} (g:HalfM O b0 h w bs m) {i k b:Nat} (x:P4 × Int) (hb:bs[i]?=some b):HalfM (ins O b (.cells ⟨cellsN ((m.getD i []).set k x)⟩ 33 (0,0))) b0 h w bs (setM m i k x):=by
  have hne:b0 ≠ b:=fun e=>g.nb (by rw[e];exact List.mem_of_getElem? hb)
  have hml:m.length=m.length:=rfl
  refine⟨g.rows.set x hb,g.nb,(ins_ne _ _ hne).trans g.list,fun j r hr=>?_⟩
  exact (setM_shape (h:=m.length) rfl g.wid i k x).2 j r hr
theorem HalfM.own {O : PH} {b0 h w:Nat} {bs:List Nat} {m:Mx} (g:HalfM O b0 h w bs m) (hl:m.length=h):OwnM O (.slice (some ⟨b0,0,none⟩) h h) h w m:=by
  refine⟨hl,g.wid,bs,b0,g.rows,g.nb,rfl,?_⟩
  have:=g.list
  rw[g.rows.len,hl,Nat.sub_self,List.replicate_zero,List.append_nil] at this
  exact this
end Go.Proofs.YtgbhgfdgifkdhaaGreat

namespace Go.Proofs.YtgbhgfdgifkdhaaGreat
open Go.Proofs.YtgbhgfdgifkdhaaGreat.X Go.Proofs.YtgbhgfdgifkdhaaGreat.X.PH
set_option maxRecDepth 100000
def diagR (x : Nat→P4 × Int) (w i:Nat):Mx:=(List.range i).map fun p=>(zeros w).set p (x p)
theorem diagR_succ (x : Nat→P4 × Int) (w i:Nat):diagR x w (i+1)=diagR x w i++[(zeros w).set i (x i)]:=by
  unfold diagR
  rw[List.range_succ,List.map_append]
  rfl
theorem diagR_len (x : Nat→P4 × Int) (w i:Nat):(diagR x w i).length=i:=by simp[diagR]
theorem setM_last (m : Mx) (r:List (P4 × Int)) {i:Nat} (hi:i=m.length) (k:Nat) (x:P4 × Int):setM (m++[r]) i k x=m++[r.set k x]:=by
  subst hi
  unfold setM
  rw[List.getD_eq_getElem?_getD,List.getElem?_concat_length,Option.getD_some]
  simp
theorem getElem_last {m : Mx} {r:List (P4 × Int)} {i:Nat} (hi:i=m.length) (h:i < (m++[r]).length):(m++[r])[i]=r:=by
  subst hi
  simp
theorem HalfM.setA {O : PH} {b0 h w:Nat} {bs:List Nat} {m:Mx} (g:HalfM O b0 h w bs m) {i k b:Nat} (a:Int) (hb:bs[i]?=some b) (hi:i < m.length) (hk:k < m[i].length) :
    HalfM (ins O b (.cells ⟨(cellsN m[i]).take (0+k*5+0)++[.int .i64 a]++(cellsN m[i]).drop (0+k*5+0+1)⟩ 33 (0,0))) b0 h w bs (setM m i k ((⟨a,m[i][k].1.b,m[i][k].1.c,m[i][k].1.d⟩:P4),m[i][k].2)):=by
  have h1:=g.upd (i:=i) (k:=k) ((⟨a,m[i][k].1.b,m[i][k].1.c,m[i][k].1.d⟩:P4),m[i][k].2) hb
  rw[show m.getD i []=m[i] by simp[List.getD_eq_getElem?_getD,hi]] at h1
  rw[cellsN_setA m[i] k a hk]
  exact h1
theorem HalfM.setN {O : PH} {b0 h w:Nat} {bs:List Nat} {m:Mx} (g:HalfM O b0 h w bs m) {i k b:Nat} (x:P4 × Int) (hb:bs[i]?=some b) (hi:i < m.length) (hk:k < m[i].length) :
    HalfM (ins O b (.cells ⟨(cellsN m[i]).take (0+k*5)++cellsOf x++(cellsN m[i]).drop (0+k*5+5)⟩ 33 (0,0))) b0 h w bs (setM m i k x):=by
  have h1:=g.upd (i:=i) (k:=k) x hb
  rw[show m.getD i []=m[i] by simp[List.getD_eq_getElem?_getD,hi]] at h1
  rw[cellsN_set m[i] k x hk]
  exact h1
def IdMR (n : Int):Mx × Int:=if n < 0∨n > 6 then ([],3) else (diagR (fun _=>oneN) (2 ^ n.toNat) (2 ^ n.toNat),0)
theorem c17o (n : Int) (H:PH):Cl Tryz.prog 40 [.int .i64 n] H emp fun r _ M'=>∃ u,r=.tuple #[u,.int .i64 (IdMR n).2]∧OwnQ M' u (IdMR n).1:=by
  refine Cl_of (pol:=polL) Γok Tryz.func40 (by kernel_rfl) rfl ?_
  conv=>whnf
  unfold IdMR
  refine if_intro (fun h=>?_) (fun h=>?_)
  · have h:=of_decide_eq_true h
    conv=>whnf
    rw[if_pos (.inl h)]
    exact⟨_,rfl,.inl ⟨rfl,rfl⟩⟩
  have h1:=of_decide_eq_false h
  conv=>whnf
  refine if_intro (fun h=>?_) (fun h=>?_)
  · have h:=of_decide_eq_true h
    conv=>whnf
    rw[if_pos (.inr h)]
    exact⟨_,rfl,.inl ⟨rfl,rfl⟩⟩
  have h2:=of_decide_eq_false h
  rw[if_neg (by omega)]
  obtain⟨n,rfl⟩:=nat_of (a:=n) (by omega)
  rw[Int.toNat_natCast]
  have p2:2 ^ n≤64:=by
    have:2 ^ n≤2 ^ 6:=Nat.pow_le_pow_right (by decide) (by omega)
    omega
  conv=>whnf
  rw[shl1 (by omega)]
  obtain⟨s,hs⟩:∃ s,s=2 ^ n:=⟨_,rfl⟩
  rw[← hs] at p2 ⊢
  refine dec_intro (Int.le_refl _) ?_
  conv=>whnf
  refine dec_intro (by omega) ?_
  conv=>whnf
  refine dec_intro (by omega) ?_
  conv=>whnf
  intro b0 hb0 _
  conv=>whnf
  refine W_loop (pol:=polL) Γok (Nat × List Nat × PH) (fun i=>i.1≤s∧HalfM i.2.2 b0 s s i.2.1 (diagR (fun _=>oneN) s i.1)) (fun i=>s - i.1) (fun i=>[(6,.v (.int .i64 i.1))]) (fun _=>[]) (fun _=>H) (fun i=>i.2.2) ⟨(0,[],_),⟨by simp,HalfM.start b0 s s emp⟩,rfl,rfl,?_⟩ ?_
  · conv=>whnf
    repeat (refine⟨rfl,?_⟩;conv=>whnf)
    exact trivial
  · rintro ⟨i,bs,O'⟩ ⟨h1,g⟩
    dsimp only at h1 g
    conv=>whnf
    refine if_intro (fun hc=>?_) (fun hc=>?_)
    · have hi:i < s:=by simpa using hc
      have hbl:i=bs.length:=by rw[g.rows.len,diagR_len]
      conv=>whnf
      refine dec_intro (Int.le_refl _) ?_
      conv=>whnf
      refine dec_intro (by omega) ?_
      conv=>whnf
      refine dec_intro (by omega) ?_
      conv=>whnf
      intro b hb hO
      conv=>whnf
      refine dec_intro (by omega) ?_
      conv=>whnf
      obtain⟨cs,q1,q2,g2⟩:=g.row hbl hi hO
      refine⟨cs,_,q1,q2,?_⟩
      conv=>whnf
      have hml:i=(diagR (fun _=>oneN) s i).length:=(diagR_len _ _ _).symm
      have him:i < (diagR (fun _=>oneN) s i++[zeros s]).length:=by rw[List.length_append,diagR_len];simp
      obtain⟨b',hb',hne,hl,hOb,hrd⟩:=g2.at him H
      have hzl:(zeros s).length=s:=by simp[zeros]
      have hk:i < ((diagR (fun _=>oneN) s i++[zeros s])[i]).length:=by rw[getElem_last hml,hzl];exact hi
      have g3:=g2.setA 1 hb' him hk
      refine dec_intro (by omega) ?_
      conv=>whnf
      refine⟨[.slice (some ⟨b',0,none⟩) s s],hrd,?_⟩
      conv=>whnf
      refine dec_intro (by omega) ?_
      conv=>whnf
      refine⟨_,_,hOb,?_,?_⟩
      · show _≤(cellsN _).length
        rw[cellsN_length,hl]
        simp only[Int.toNat_natCast,List.length_cons,List.length_nil]
        omega
      conv=>whnf
      have key:∀ r,r=zeros s→∀ hk:i < r.length,(((⟨1,r[i].1.b,r[i].1.c,r[i].1.d⟩:P4),r[i].2):P4 × Int)=oneN:=by
        rintro r rfl hk
        simp[zeros,oneN,P4.zero]
      rw[key _ (getElem_last hml him) hk,setM_last _ _ hml,← diagR_succ (fun _=>oneN)] at g3
      refine⟨(i+1,bs++[b],_),⟨hi,g3⟩,by dsimp only;omega,?_⟩
      refine⟨rfl,rfl,?_⟩
      conv=>whnf
      repeat (refine⟨rfl,?_⟩;conv=>whnf)
      refine⟨by show En.v (.int .i64 (IntKind.i64.wrap (i+1)))=_;rw[wrap_id (by omega) (by omega)];rfl,?_⟩
      conv=>whnf
      repeat (refine⟨rfl,?_⟩;conv=>whnf)
      exact trivial
    · have hi:i=s:=by
        have h:=of_decide_eq_false hc
        omega
      subst hi
      conv=>whnf
      exact⟨_,rfl,.inr ⟨i,i,by omega,by omega,g.own (diagR_len _ _ _)⟩⟩
end Go.Proofs.YtgbhgfdgifkdhaaGreat

namespace Go.Proofs.YtgbhgfdgifkdhaaGreat
open Go.Proofs.YtgbhgfdgifkdhaaGreat.X Go.Proofs.YtgbhgfdgifkdhaaGreat.X.PH
set_option maxRecDepth 100000
theorem flat_oneI : ∀ l:List Int,(l.map fun x=>[Value.int .i64 x]).flatten=l.map fun x=>.int .i64 x
  | []=>rfl
  | x::l=>by
    rw[List.map_cons,List.flatten_cons,flat_oneI l]
    rfl
abbrev IntsO (O : PH) (v:Value) (l:List Int):Prop:=OwnS O 1 3 v (l.map fun x=>[.int .i64 x])
theorem IntsO.pub {H M : PH} (hd:Dis H M) {v:Value} {l:List Int} (h:IntsO M v l):∃ H' M',Repart H M H' M'∧IntsH H' v l:=by
  obtain⟨h1,h⟩:=h
  rcases h with⟨rfl,h⟩ | ⟨b,cap,spare,rfl,hO,hcap,hsp⟩
  · have:l=[]:=by simpa using h
    subst this
    exact⟨H,M,.refl hd,none,0,rfl,.inl ⟨rfl,rfl⟩⟩
  · refine⟨_,_,.one hd hO,some ⟨b,0,none⟩,cap,by simp,.inr ⟨b,0,_,_,_,rfl,ins_same _ _ _,?_⟩⟩
    rw[flat_oneI]
    simp
theorem c16 (l : List Int) (hlen:l.length≤100000) (H:PH) (v:Value) (hv:IntsH H v l):Cl Tryz.prog 39 [v] H emp fun r _ M'=>IntsO M' r l:=by
  obtain⟨base,cap,rfl,hv'⟩:=id hv
  refine Cl_of (pol:=fun _=>.own) Γok Tryz.func39 (by kernel_rfl) rfl ?_
  conv=>whnf
  refine if_intro (fun h=>?_) (fun h=>?_)
  · conv=>whnf
    rcases hv' with⟨h',_⟩ | ⟨_,_,_,_,_,h',_⟩
    · have:l=[]:=by simpa using h'
      subst this
      exact⟨by simp,.inl ⟨rfl,rfl⟩⟩
    · rw[h'] at h;cases h
  · conv=>whnf
    intro b hb hO
    conv=>whnf
    have hfl:=flat_oneI l
    refine append_many (xs:=[]) (ys:=l.map fun x=>[.int .i64 x]) ⟨by simp,.inr ⟨b,0,[],rfl,by rw[ins_same];rfl,Nat.le_refl _,by simp⟩⟩ rfl (fun y hy=>?_) ?_ ⟨base,cap,by simp,fun hb=>?_,fun a ha hpos=>?_⟩ ?_ fun v O2 hO2 hfr=>?_
    · obtain⟨x,_,rfl⟩:=List.mem_map.1 hy
      rfl
    · rw[hfl]
      intro v hv
      obtain⟨x,_,rfl⟩:=List.mem_map.1 hv
      rfl
    · rcases hv' with⟨h',_⟩ | ⟨_,_,_,_,_,h',_⟩
      · have:l=[]:=by simpa using h'
        rw[this];rfl
      · rw[hb] at h';cases h'
    · rcases hv' with⟨h',_⟩ | ⟨b1,off1,c,t,fr,h1,h2,h3⟩
      · simp at hpos;omega
      · rw[ha] at h1;cases h1
        refine⟨rfl,by rw[hfl];simp,c,t,fr,.inl h2,?_⟩
        rw[hfl]
        simpa using h3
    · simp
      omega
    conv=>whnf
    exact hO2
theorem c16' (l : List Int) (hlen:l.length≤100000) (H:PH) (v:Value) (hv:IntsH H v l):Cl Tryz.prog 39 [v] H emp fun r H' _=>IntsH H' r l:=
  (c16 l hlen H v hv).repart fun _ _ _ _ hd h=>by
    obtain⟨H',M',h1,h2⟩:=IntsO.pub hd h
    exact⟨H',M',h1,h2⟩
theorem IntsH.at {H : PH} {base:Option Addr} {n cap:Nat} {l:List Int} (h:IntsH H (.slice base n cap) l) {i:Nat} (hi:i < l.length) :
    ∃ b off,base=some ⟨b,off,none⟩∧∀ H' O,Sub H H'→Rd H' O ⟨b,off+i*1,none⟩ 1 [.int .i64 l[i]]:=by
  obtain⟨b,off,hb,hrd⟩:=IntsH.rd h hi
  exact⟨b,off,hb,fun _ _ hs=>Rd_up (hrd emp) hs⟩
theorem c25 (l k : List Int) (hlen:l.length < 9223372036854775808) (H:PH) (u v:Value) (hu:IntsH H u l) (hv:IntsH H v k):Cl Tryz.prog 47 [u,v] H emp fun r _ _=>r=.bool (decide (l=k)):=by
  obtain⟨base,cap,rfl,_⟩:=id hu
  obtain⟨base',cap',rfl,_⟩:=id hv
  refine Cl_of (pol:=polL) Γok Tryz.func47 (by kernel_rfl) rfl ?_
  conv=>whnf
  refine if_intro (fun h=>?_) (fun h=>?_)
  · conv=>whnf
    rw[decide_eq_false (fun e=>by rw[e] at h;simp at h)]
  have hl:l.length=k.length:=by
    have:(l.length:Int)=k.length:=by simpa using h
    omega
  conv=>whnf
  refine W_loop (pol:=polL) Γok (Nat × PH) (fun i=>i.1≤l.length∧Sub H i.2∧l.take i.1=k.take i.1) (fun i=>l.length - i.1) (fun i=>[(13,.v (.int .i64 i.1))]) (fun _=>[]) (fun i=>i.2) (fun _=>emp) ⟨(0,H),⟨by simp,Sub.refl _,by simp⟩,rfl,rfl,?_⟩ ?_
  · conv=>whnf
    repeat (refine⟨rfl,?_⟩;conv=>whnf)
    exact trivial
  · rintro ⟨i,H'⟩ ⟨h1,h2,h3⟩
    dsimp only at h1 h2 h3
    conv=>whnf
    refine if_intro (fun hc=>?_) (fun hc=>?_)
    · have hi:i < l.length:=by simpa using hc
      have hk:i < k.length:=by omega
      obtain⟨b,off,rfl,hx⟩:=IntsH.at hu hi
      obtain⟨b',off',rfl,hy⟩:=IntsH.at hv hk
      conv=>whnf
      refine W_draw (pol:=polL) Γok mixes [(0,.pendO),(1,.pendO),(2,.pendO),(3,.pendO),(4,.pendO),(5,.pendO),(6,.pendO),(7,.pendO),(8,.pendO)] 26 (by kernel_rfl) rfl ?_
      conv=>whnf
      refine dec_intro (by omega) ?_
      conv=>whnf
      refine⟨_,hx _ _ h2,?_⟩
      conv=>whnf
      refine dec_intro (by omega) ?_
      conv=>whnf
      refine⟨_,hy _ _ h2,?_⟩
      conv=>whnf
      refine if_intro (fun hq=>?_) (fun hq=>?_)
      · conv=>whnf
        rw[decide_eq_false (fun e=>by subst e;simp at hq)]
      · have hq:l[i]=k[i]:=by simpa using hq
        conv=>whnf
        refine⟨(i+1,H'),⟨hi,h2,?_⟩,by dsimp only;omega,?_⟩
        · dsimp only
          rw[List.take_succ_eq_append_getElem hi,List.take_succ_eq_append_getElem hk,h3,hq]
        conv=>whnf
        refine⟨rfl,rfl,?_⟩
        conv=>whnf
        repeat (refine⟨rfl,?_⟩;conv=>whnf)
        refine⟨by show En.v (.int .i64 (IntKind.i64.wrap (i+1)))=_;rw[wrap_id (by omega) (by omega)];rfl,?_⟩
        conv=>whnf
        repeat (refine⟨rfl,?_⟩;conv=>whnf)
        exact trivial
    · have hi:l.length≤i:=by simpa using hc
      conv=>whnf
      rw[List.take_of_length_le hi,List.take_of_length_le (by omega)] at h3
      rw[decide_eq_true h3]
def placesR (ws : List Int) (n:Int):Int:=if ws.all (inW n)=false then 1 else if twiceF ws then 5 else 0
theorem c70 (ws : List Int) (n:Int) (hlen:ws.length < 1000000) (H:PH) (v:Value) (hv:IntsH H v ws):Cl Tryz.prog 102 [v,.int .i64 n] H emp fun r _ _=>r=.int .i64 (placesR ws n):=by
  obtain⟨base,cap,rfl,_⟩:=id hv
  refine Cl_of (pol:=polL) Γok Tryz.func102 (by kernel_rfl) rfl ?_
  conv=>whnf
  refine W_loopX (pol:=polL) Γok (Nat × PH) (fun i=>i.1≤ws.length∧Sub H i.2∧∀ x∈ws.take i.1,inW n x=true) (fun i=>ws.length - i.1) (fun e i=>e=.exit 0∧Sub H i.2∧ws.all (inW n)=true) (fun i=>[(5,.v (.int .i64 i.1))]) (fun _=>[]) (fun i=>i.2) (fun _=>emp) ⟨(0,H),⟨by simp,Sub.refl _,by simp⟩,rfl,rfl,?_⟩ ?_ ?_
  · conv=>whnf
    repeat (refine⟨rfl,?_⟩;conv=>whnf)
    exact trivial
  · rintro ⟨i,H'⟩ ⟨h1,h2,h3⟩
    dsimp only at h1 h2 h3
    conv=>whnf
    refine if_intro (fun hc=>?_) (fun hc=>?_)
    · have hi:i < ws.length:=by simpa using hc
      obtain⟨b,off,rfl,hx⟩:=IntsH.at hv hi
      have bad:inW n ws[i]=false→placesR ws n=1:=fun h=>by
        unfold placesR
        rw[if_pos]
        rw[List.all_eq_false]
        exact⟨_,List.getElem_mem hi,by rw[h];simp⟩
      conv=>whnf
      refine dec_intro (by omega) ?_
      conv=>whnf
      refine⟨_,hx _ _ h2,?_⟩
      conv=>whnf
      refine if_intro (fun hq=>?_) (fun hq=>?_)
      · have hq:=of_decide_eq_true hq
        conv=>whnf
        refine .inl ?_
        conv=>whnf
        rw[bad (by unfold inW;simp;omega)]
      have hq:=of_decide_eq_false hq
      conv=>whnf
      refine dec_intro (by omega) ?_
      conv=>whnf
      refine⟨_,hx _ _ h2,?_⟩
      conv=>whnf
      refine if_intro (fun hq2=>?_) (fun hq2=>?_)
      · have hq2:=of_decide_eq_true hq2
        conv=>whnf
        refine .inl ?_
        conv=>whnf
        rw[bad (by unfold inW;simp;omega)]
      have hq2:=of_decide_eq_false hq2
      conv=>whnf
      refine⟨(i+1,H'),⟨hi,h2,?_⟩,by dsimp only;omega,?_⟩
      · dsimp only
        rw[List.take_succ_eq_append_getElem hi]
        intro x hx
        rcases List.mem_append.1 hx with hx | hx
        · exact h3 x hx
        · simp at hx
          subst hx
          unfold inW
          simp
          omega
      conv=>whnf
      refine⟨rfl,rfl,?_⟩
      conv=>whnf
      repeat (refine⟨rfl,?_⟩;conv=>whnf)
      refine⟨by show En.v (.int .i64 (IntKind.i64.wrap (i+1)))=_;rw[wrap_id (by omega) (by omega)];rfl,?_⟩
      conv=>whnf
      repeat (refine⟨rfl,?_⟩;conv=>whnf)
      exact trivial
    · have hi:ws.length≤i:=by simpa using hc
      conv=>whnf
      rw[List.take_of_length_le hi] at h3
      refine .inr ⟨(i,H'),⟨rfl,h2,List.all_eq_true.2 h3⟩,rfl,rfl,?_⟩
      conv=>whnf
      repeat (refine⟨rfl,?_⟩;conv=>whnf)
      exact trivial
  rintro e ⟨i,H1⟩ ⟨rfl,s1,hall⟩
  dsimp only at s1
  unfold placesR
  rw[if_neg (by rw[hall];simp)]
  conv=>whnf
  refine W_loop (pol:=polL) Γok (Nat × PH) (fun i=>i.1≤ws.length∧Sub H1 i.2∧∀ q,q < i.1→(ws.take q).contains (ws.getD q 0)=false) (fun i=>ws.length - i.1) (fun i=>[(6,.v (.int .i64 i.1))]) (fun _=>[]) (fun i=>i.2) (fun _=>emp) ⟨(0,H1),⟨by simp,Sub.refl _,by simp⟩,rfl,rfl,?_⟩ ?_
  · conv=>whnf
    repeat (refine⟨rfl,?_⟩;conv=>whnf)
    exact trivial
  · rintro ⟨i,H'⟩ ⟨h1,h2,h3⟩
    dsimp only at h1 h2 h3
    conv=>whnf
    refine if_intro (fun hc=>?_) (fun hc=>?_)
    · have hi:i < ws.length:=by simpa using hc
      have hgi:ws.getD i 0=ws[i]:=by simp[List.getD_eq_getElem?_getD,hi]
      conv=>whnf
      refine W_loopX (pol:=polL) Γok (Nat × PH) (fun k=>k.1≤i∧Sub H' k.2∧∀ q (hq:q < ws.length),q < k.1→ws[i] ≠ ws[q]) (fun k=>i - k.1) (fun e k=>e=.exit 4∧Sub H' k.2∧(ws.take i).contains (ws.getD i 0)=false) (fun k=>[(7,.v (.int .i64 k.1))]) (fun _=>[]) (fun k=>k.2) (fun _=>emp) ⟨(0,H'),⟨by simp,Sub.refl _,by simp⟩,rfl,rfl,?_⟩ ?_ ?_
      · conv=>whnf
        repeat (refine⟨rfl,?_⟩;conv=>whnf)
        exact trivial
      · rintro ⟨k,H2⟩ ⟨k1,k2,k3⟩
        dsimp only at k1 k2 k3
        conv=>whnf
        refine if_intro (fun hc=>?_) (fun hc=>?_)
        · have hk:k < i:=by
            have:=of_decide_eq_true hc
            omega
          obtain⟨b,off,rfl,hx⟩:=IntsH.at hv hi
          obtain⟨b',off',hbe,hy⟩:=IntsH.at hv (show k < ws.length by omega)
          cases hbe
          have s2:=s1.trans (h2.trans k2)
          conv=>whnf
          refine W_draw (pol:=polL) Γok mixes [(0,.pendO),(1,.pendO),(2,.pendO),(3,.pendO),(4,.pendO),(5,.pendO),(6,.pendO),(7,.pendO),(8,.pendO)] 47 (by kernel_rfl) rfl ?_
          conv=>whnf
          refine dec_intro (by omega) ?_
          conv=>whnf
          refine⟨_,hx _ _ s2,?_⟩
          conv=>whnf
          refine dec_intro (by omega) ?_
          conv=>whnf
          refine⟨_,hy _ _ s2,?_⟩
          conv=>whnf
          refine if_intro (fun hq=>?_) (fun hq=>?_)
          · have hq:ws[i]=ws[k]:=by simpa using hq
            conv=>whnf
            refine .inl ?_
            conv=>whnf
            rw[if_pos]
            unfold twiceF
            rw[List.any_eq_true]
            refine⟨i,List.mem_range.2 hi,?_⟩
            rw[hgi,hq]
            rw[List.contains_iff_mem]
            exact List.mem_take_iff_getElem.2 ⟨k,by omega,rfl⟩
          · have hq:ws[i] ≠ ws[k]:=by simpa using hq
            conv=>whnf
            refine⟨(k+1,H2),⟨hk,k2,fun q hq' hlt=>?_⟩,by dsimp only;omega,?_⟩
            · dsimp only at hlt
              rcases Nat.lt_or_ge q k with h | h
              · exact k3 q hq' h
              · have:q=k:=by omega
                subst this
                exact hq
            conv=>whnf
            refine⟨rfl,rfl,?_⟩
            conv=>whnf
            repeat (refine⟨rfl,?_⟩;conv=>whnf)
            refine⟨by show En.v (.int .i64 (IntKind.i64.wrap (k+1)))=_;rw[wrap_id (by omega) (by omega)];rfl,?_⟩
            conv=>whnf
            repeat (refine⟨rfl,?_⟩;conv=>whnf)
            exact trivial
        · have hk:i≤k:=by
            have:=of_decide_eq_false hc
            omega
          conv=>whnf
          refine .inr ⟨(k,H2),⟨rfl,k2,?_⟩,rfl,rfl,?_⟩
          · rw[hgi]
            cases hct:(ws.take i).contains ws[i] with
            | false=>rfl
            | true=>
              rw[List.contains_iff_mem] at hct
              obtain⟨q,hq,e⟩:=List.mem_take_iff_getElem.1 hct
              exact absurd e.symm (k3 q (by omega) (by omega))
          conv=>whnf
          repeat (refine⟨rfl,?_⟩;conv=>whnf)
          exact trivial
      · rintro e ⟨k,H2⟩ ⟨rfl,k2,k3⟩
        dsimp only at k2 k3
        conv=>whnf
        refine⟨(i+1,H2),⟨hi,h2.trans k2,fun q hq=>?_⟩,by dsimp only;omega,?_⟩
        · dsimp only at hq
          rcases Nat.lt_or_ge q i with h | h
          · exact h3 q h
          · have:q=i:=by omega
            subst this
            exact k3
        conv=>whnf
        refine⟨rfl,rfl,?_⟩
        conv=>whnf
        repeat (refine⟨rfl,?_⟩;conv=>whnf)
        refine⟨by show En.v (.int .i64 (IntKind.i64.wrap (i+1)))=_;rw[wrap_id (by omega) (by omega)];rfl,?_⟩
        conv=>whnf
        repeat (refine⟨rfl,?_⟩;conv=>whnf)
        exact trivial
    · have hi:ws.length≤i:=by simpa using hc
      conv=>whnf
      rw[if_neg]
      unfold twiceF
      rw[Bool.not_eq_true,List.any_eq_false]
      intro q hq
      rw[h3 q (by have:=List.mem_range.1 hq;omega)]
      simp
end Go.Proofs.YtgbhgfdgifkdhaaGreat

namespace Go.Proofs.YtgbhgfdgifkdhaaGreat
open Go.Proofs.YtgbhgfdgifkdhaaGreat.X Go.Proofs.YtgbhgfdgifkdhaaGreat.X.PH
set_option maxRecDepth 100000
def LowM (m : Mx):Prop:=∀ r∈m,∀ x∈r,x.1.b=0∧x.1.c=0∧x.1.d=0∧x.2=0
theorem LowM.set {m : Mx} (h:LowM m) (i k:Nat):LowM (setM m i k oneN):=by
  intro r hr x hx
  unfold setM at hr
  rcases List.mem_or_eq_of_mem_set hr with h1 | h1
  · exact h r h1 x hx
  · subst h1
    rcases List.mem_or_eq_of_mem_set hx with h2 | h2
    · rw[List.getD_eq_getElem?_getD] at h2
      cases e:m[i]? with
      | none=>rw[e] at h2;simp at h2
      | some r'=>
        rw[e] at h2
        exact h r' (List.mem_of_getElem? e) x h2
    · subst h2
      exact⟨rfl,rfl,rfl,rfl⟩
theorem movedM_low (t : Nat→Nat) (n:Nat):∀ k,LowM (movedM t n k)
  | 0=>fun r hr x hx=>by
    have hr:=List.eq_of_mem_replicate hr
    subst hr
    have hx:=List.eq_of_mem_replicate hx
    subst hx
    exact⟨rfl,rfl,rfl,rfl⟩
  | k+1=>(movedM_low t n k).set _ _
theorem movedM_len (t : Nat→Nat) (n:Nat):∀ k,(movedM t n k).length=n
  | 0=>by simp[movedM]
  | k+1=>by
    unfold movedM setM
    rw[List.length_set,movedM_len t n k]
theorem c68 (to : List Int) (t:Nat→Nat) (hn:to.length < 1000) (ht:∀ k,k < to.length→to[k]?=some (t k:Int)∧t k < to.length) (H:PH) (v:Value) (hv:IntsH H v to) :
    Cl Tryz.prog 35 [v] H emp fun r _ M'=>OwnQ M' r (movedM t to.length to.length):=by
  obtain⟨base,cap,rfl,_⟩:=id hv
  refine Cl_of (pol:=polL) Γok Tryz.func35 (by kernel_rfl) rfl ?_
  conv=>whnf
  refine dec_intro (Int.le_refl _) ?_
  conv=>whnf
  refine dec_intro (by omega) ?_
  conv=>whnf
  refine dec_intro (by omega) ?_
  conv=>whnf
  intro b0 hb0 _
  conv=>whnf
  obtain⟨s,hs⟩:∃ s,s=to.length:=⟨_,rfl⟩
  rw[← hs] at hn ht ⊢
  refine W_loop (pol:=polL) Γok (Nat × List Nat × PH) (fun i=>i.1≤s∧HalfM i.2.2 b0 s s i.2.1 (List.replicate i.1 (zeros s))) (fun i=>s - i.1) (fun i=>[(4,.v (.int .i64 i.1))]) (fun _=>[]) (fun _=>H) (fun i=>i.2.2) ⟨(0,[],_),⟨by simp,HalfM.start b0 s s emp⟩,rfl,rfl,?_⟩ ?_
  · conv=>whnf
    repeat (refine⟨rfl,?_⟩;conv=>whnf)
    exact trivial
  · rintro ⟨i,bs,O'⟩ ⟨h1,g⟩
    dsimp only at h1 g
    conv=>whnf
    refine if_intro (fun hc=>?_) (fun hc=>?_)
    · have hi:i < s:=by simpa using hc
      have hbl:i=bs.length:=by rw[g.rows.len,List.length_replicate]
      conv=>whnf
      refine dec_intro (Int.le_refl _) ?_
      conv=>whnf
      refine dec_intro (by omega) ?_
      conv=>whnf
      refine dec_intro (by omega) ?_
      conv=>whnf
      intro b hb hO
      conv=>whnf
      refine dec_intro (by omega) ?_
      conv=>whnf
      obtain⟨cs,q1,q2,g2⟩:=g.row hbl hi hO
      rw[← List.replicate_succ'] at g2
      refine⟨cs,_,q1,q2,?_⟩
      conv=>whnf
      refine⟨(i+1,bs++[b],_),⟨hi,g2⟩,by dsimp only;omega,?_⟩
      refine⟨rfl,rfl,?_⟩
      conv=>whnf
      repeat (refine⟨rfl,?_⟩;conv=>whnf)
      refine⟨by show En.v (.int .i64 (IntKind.i64.wrap (i+1)))=_;rw[wrap_id (by omega) (by omega)];rfl,?_⟩
      conv=>whnf
      repeat (refine⟨rfl,?_⟩;conv=>whnf)
      exact trivial
    have hi:i=s:=by
      have h:=of_decide_eq_false hc
      omega
    subst hi
    conv=>whnf
    refine W_loop (pol:=polL) Γok (Nat × PH) (fun k=>k.1≤i∧HalfM k.2 b0 i i bs (movedM t i k.1)) (fun k=>i - k.1) (fun k=>[(5,.v (.int .i64 k.1))]) (fun _=>[]) (fun _=>H) (fun k=>k.2) ⟨(0,O'),⟨by simp,g⟩,rfl,rfl,?_⟩ ?_
    · conv=>whnf
      repeat (refine⟨rfl,?_⟩;conv=>whnf)
      exact trivial
    · rintro ⟨k,O2⟩ ⟨k1,gk⟩
      dsimp only at k1 gk
      conv=>whnf
      refine if_intro (fun hc=>?_) (fun hc=>?_)
      · have hk:k < i:=by simpa using hc
        obtain⟨b,off,rfl,hx⟩:=IntsH.at hv (show k < to.length by omega)
        obtain⟨t1,t2⟩:=ht k hk
        have t1':to[k]'(by omega)=(t k:Int):=by
          rw[List.getElem?_eq_getElem (by omega)] at t1
          exact Option.some.inj t1
        have htl:t k < (movedM t i k).length:=by rw[movedM_len];exact t2
        obtain⟨b',hb',hne,hl,hOb,hrd⟩:=gk.at htl H
        have hkl:k < (movedM t i k)[t k].length:=by rw[hl];exact hk
        have g3:=gk.setA 1 hb' htl hkl
        obtain⟨y1,y2,y3,y4⟩:=movedM_low t i k _ (List.getElem_mem htl) _ (List.getElem_mem hkl)
        rw[y1,y2,y3,y4] at g3
        conv=>whnf
        refine dec_intro (by omega) ?_
        conv=>whnf
        refine⟨[.int .i64 (t k)],by have:=hx H O2 (Sub.refl _);rw[t1'] at this;exact this,?_⟩
        conv=>whnf
        refine dec_intro (by omega) ?_
        conv=>whnf
        refine⟨[.slice (some ⟨b',0,none⟩) i i],hrd,?_⟩
        conv=>whnf
        refine dec_intro (by omega) ?_
        conv=>whnf
        refine⟨_,_,hOb,?_,?_⟩
        · show _≤(cellsN _).length
          rw[cellsN_length,hl]
          simp only[Int.toNat_natCast,List.length_cons,List.length_nil]
          omega
        conv=>whnf
        refine⟨(k+1,_),⟨hk,g3⟩,by dsimp only;omega,?_⟩
        refine⟨rfl,rfl,?_⟩
        conv=>whnf
        repeat (refine⟨rfl,?_⟩;conv=>whnf)
        refine⟨by show En.v (.int .i64 (IntKind.i64.wrap (k+1)))=_;rw[wrap_id (by omega) (by omega)];rfl,?_⟩
        conv=>whnf
        repeat (refine⟨rfl,?_⟩;conv=>whnf)
        exact trivial
      · have hk:k=i:=by
          have h:=of_decide_eq_false hc
          omega
        subst hk
        conv=>whnf
        exact .inr ⟨k,k,by omega,by omega,gk.own (movedM_len _ _ _)⟩
end Go.Proofs.YtgbhgfdgifkdhaaGreat

namespace Go.Proofs.YtgbhgfdgifkdhaaGreat
open Go.Proofs.YtgbhgfdgifkdhaaGreat.X Go.Proofs.YtgbhgfdgifkdhaaGreat.X.PH
set_option maxRecDepth 100000
def only (O : PH) (b:Nat):PH:=fun n=>if n=b then O n else none
theorem only_ne (O : PH) {b n:Nat} (h:n ≠ b):only O b n=none:=by simp[only,h]
theorem only_same (O : PH) (b:Nat):only O b b=O b:=by simp[only]
theorem parts_only (O : PH) (b:Nat):Parts O (only O b) (del O b):=by
  refine⟨fun n=>?_,fun n=>?_⟩
  · unfold un only del
    by_cases h:n=b
    · simp[h]
      cases O b<;>rfl
    · simp[h]
  · unfold only del
    by_cases h:n=b
    · exact .inr (by simp[h])
    · exact .inl (by simp[h])
theorem un_only {O : PH} {b b':Nat} {x o:Obj} (h:b' ≠ b) (hb:O b=some o):un (only O b) (ins (del O b) b' x)=ins O b' x:=by
  funext n
  unfold un
  by_cases e:n=b
  · subst e
    rw[only_same,hb]
    exact ((ins_ne _ _ (Ne.symm h)).trans hb).symm
  · rw[only_ne O e]
    dsimp only
    by_cases e':n=b'
    · subst e'
      rw[ins_same,ins_same]
    · rw[ins_ne _ _ e',ins_ne _ _ e',del_ne _ e]
theorem noLoc {l : List (Option B)} {q:Nat} {b:B} (h:∀ x∈l,x=none) (hq:l[q]?=some (some b)):False:=by
  have:=h _ (List.mem_of_getElem? hq)
  cases this
theorem sub_un (H L : PH):Sub H (un H L):=fun n o hn=>by simp[un,hn]
theorem HalfM.lent {O : PH} {b0 h w:Nat} {bs:List Nat} {m:Mx} (g:HalfM O b0 h w bs m) {i:Nat} (hi:i < m.length) {H:PH} (hd:Dis H (only O b0)) :
    ∃ b,bs[i]?=some b∧b ≠ b0∧m[i].length=w∧O b=some (.cells ⟨cellsN m[i]⟩ 33 (0,0))∧del O b0 b=some (.cells ⟨cellsN m[i]⟩ 33 (0,0)) ∧
      ∀ H' R',Sub (un H (only O b0)) H'→Rd H' R' ⟨b0,0+i*1,none⟩ 1 [.slice (some ⟨b,0,none⟩) w w]:=by
  obtain⟨b,q1,q2,q3,q4,_⟩:=g.at hi H
  have hib:i < bs.length:=by rw[g.rows.len];exact hi
  have hbi:bs[i]=b:=by rw[List.getElem?_eq_getElem hib] at q1;exact Option.some.inj q1
  refine⟨b,q1,q2,q3,q4,(del_ne _ q2).trans q4,fun H' R' hs=>⟨rfl,rfl,_,_,_,.inl (hs _ _ (un_right hd ((only_same O b0).trans g.list))),?_⟩⟩
  dsimp only
  rw[Nat.zero_add,Nat.mul_one,List.drop_append_of_le_length (by simpa using Nat.le_of_lt hib),List.drop_eq_getElem_cons (by simpa using hib)]
  simp[rowV,hbi]
theorem c69 (ps : List Int) (f:Nat→Nat) (hn:ps.length < 1000) (ht:∀ k,k < ps.length→ps[k]?=some (f k:Int)∧f k < 8) (H:PH) (v:Value) (hv:IntsH H v ps) :
    Cl Tryz.prog 36 [v] H emp fun r _ M'=>OwnQ M' r (diagR (fun p=>OmegaF (f p)) ps.length ps.length):=by
  obtain⟨base,cap,rfl,_⟩:=id hv
  refine Cl_of (pol:=polL) Γok Tryz.func36 (by kernel_rfl) rfl ?_
  conv=>whnf
  refine dec_intro (Int.le_refl _) ?_
  conv=>whnf
  refine dec_intro (by omega) ?_
  conv=>whnf
  refine dec_intro (by omega) ?_
  conv=>whnf
  intro b0 hb0 _
  conv=>whnf
  obtain⟨s,hs⟩:∃ s,s=ps.length:=⟨_,rfl⟩
  rw[← hs] at hn ht ⊢
  refine W_loop (pol:=polL) Γok (Nat × List Nat × PH × PH) (fun i=>i.1≤s∧Sub H i.2.2.1∧HalfM i.2.2.2 b0 s s i.2.1 (diagR (fun p=>OmegaF (f p)) s i.1)) (fun i=>s - i.1) (fun i=>[(4,.v (.int .i64 i.1))]) (fun _=>[]) (fun i=>i.2.2.1) (fun i=>i.2.2.2) ⟨(0,[],H,_),⟨by simp,Sub.refl _,HalfM.start b0 s s emp⟩,rfl,rfl,?_⟩ ?_
  · conv=>whnf
    repeat (refine⟨rfl,?_⟩;conv=>whnf)
    exact trivial
  · rintro ⟨i,bs,H1,O'⟩ ⟨h1,s1,g⟩
    dsimp only at h1 s1 g
    conv=>whnf
    refine if_intro (fun hc=>?_) (fun hc=>?_)
    · have hi:i < s:=by simpa using hc
      have hbl:i=bs.length:=by rw[g.rows.len,diagR_len]
      obtain⟨b',off',rfl,hx⟩:=IntsH.at hv (show i < ps.length by omega)
      obtain⟨t1,t2⟩:=ht i hi
      have t1':ps[i]'(by omega)=(f i:Int):=by
        rw[List.getElem?_eq_getElem (by omega)] at t1
        exact Option.some.inj t1
      conv=>whnf
      refine dec_intro (Int.le_refl _) ?_
      conv=>whnf
      refine dec_intro (by omega) ?_
      conv=>whnf
      refine dec_intro (by omega) ?_
      conv=>whnf
      intro b hb hO
      conv=>whnf
      refine dec_intro (by omega) ?_
      conv=>whnf
      obtain⟨cs,q1,q2,g2⟩:=g.row hbl hi hO
      refine⟨cs,_,q1,q2,?_⟩
      conv=>whnf
      have hml:i=(diagR (fun p=>OmegaF (f p)) s i).length:=(diagR_len _ _ _).symm
      have him:i < (diagR (fun p=>OmegaF (f p)) s i++[zeros s]).length:=by rw[List.length_append,diagR_len];simp
      refine W_lend (parts_only _ b0) fun hd=>?_
      obtain⟨b2,hb2,hne,hl,hOb,hOb',hrd⟩:=g2.lent him hd
      have hk:i < ((diagR (fun p=>OmegaF (f p)) s i++[zeros s])[i]).length:=by rw[hl];exact hi
      have g3:=g2.setN (OmegaF (f i)) hb2 him hk
      rw[setM_last _ _ hml,← diagR_succ (fun p=>OmegaF (f p))] at g3
      refine W_draw (pol:=polL) Γok mixes [(0,.pend),(1,.pend),(2,.pend),(3,.pend),(4,.pend),(5,.pendO),(6,.pendO),(7,.pendO),(8,.pendO),(9,.lock),(10,.pendO),(11,.lock)] 32 (by kernel_rfl) rfl ?_
      conv=>whnf
      refine dec_intro (by omega) ?_
      conv=>whnf
      refine⟨_,hrd _ _ (Sub.refl _),?_⟩
      conv=>whnf
      refine dec_intro (by omega) ?_
      conv=>whnf
      refine⟨[.int .i64 (f i)],by rw[← t1'];exact hx _ _ (s1.trans (sub_un _ _)),?_⟩
      conv=>whnf
      refine (c99 (f i) t2 _).val fun H2 hs2=>?_
      conv=>whnf
      refine dec_intro (by omega) ?_
      conv=>whnf
      refine⟨_,_,hOb',?_,?_⟩
      · show _≤(cellsN _).length
        rw[cellsN_length,hl]
        simp only[Int.toNat_natCast,List.length_cons,List.length_nil]
        omega
      conv=>whnf
      refine⟨fun n o hn=>hs2 n o (un_right hd hn),fun q b3 hq hp=>?_,fun H3 e1 e2=>?_⟩
      · exact (noLoc (by simp) hq).elim
      conv=>whnf
      have s3:Sub H H3:=fun n o hn=>by
        have h1:=s1 n o hn
        have h2:=(hd n).resolve_left (by dsimp only;rw[h1];simp)
        exact (e1 n h2).trans (hs2 n o (sub_un _ _ n o h1))
      rw[← un_only hne g2.list] at g3
      refine⟨(i+1,bs++[b],H3,_),⟨hi,s3,g3⟩,by dsimp only;omega,?_⟩
      refine⟨rfl,rfl,?_⟩
      conv=>whnf
      repeat (refine⟨rfl,?_⟩;conv=>whnf)
      refine⟨by show En.v (.int .i64 (IntKind.i64.wrap (i+1)))=_;rw[wrap_id (by omega) (by omega)];rfl,?_⟩
      conv=>whnf
      repeat (refine⟨rfl,?_⟩;conv=>whnf)
      exact trivial
    · have hi:i=s:=by
        have h:=of_decide_eq_false hc
        omega
      subst hi
      conv=>whnf
      exact .inr ⟨i,i,by omega,by omega,g.own (diagR_len _ _ _)⟩
end Go.Proofs.YtgbhgfdgifkdhaaGreat

namespace Go.Proofs.YtgbhgfdgifkdhaaGreat
open Go.Proofs.YtgbhgfdgifkdhaaGreat.X Go.Proofs.YtgbhgfdgifkdhaaGreat.X.PH
set_option maxRecDepth 100000
def takenF (ws : List Int) (a:Int):Nat→Int × Int
  | 0=>(0,a)
  | j+1=>if andI (takenF ws a j).2 (shlI 1 (ws.getD j 0)) ≠ 0 then (IntKind.i64.wrap ((takenF ws a j).1+shlI 1 j),IntKind.i64.wrap ((takenF ws a j).2 - shlI 1 (ws.getD j 0))) else takenF ws a j
theorem neq_true {x : Int} (h:(!(x == 0))=true):x ≠ 0:=by simpa using h
theorem neq_false {x : Int} (h:(!(x == 0))=false):x=0:=by simpa using h
theorem c71 (ws : List Int) (hlen:ws.length < 1000000) (hw:∀ w∈ws,0≤w) (a:Int) (H:PH) (v:Value) (hv:IntsH H v ws) :
    Cl Tryz.prog 103 [.int .i64 a,v] H emp fun r _ _=>r=.tuple #[.int .i64 (takenF ws a ws.length).1,.int .i64 (takenF ws a ws.length).2]:=by
  obtain⟨base,cap,rfl,_⟩:=id hv
  refine Cl_of (pol:=polL) Γok Tryz.func103 (by kernel_rfl) rfl ?_
  conv=>whnf
  refine W_loop (pol:=polL) Γok (Nat × PH) (fun i=>i.1≤ws.length∧Sub H i.2) (fun i=>ws.length - i.1) (fun i=>[(0,.v (.int .i64 (takenF ws a i.1).2)),(6,.v (.int .i64 (takenF ws a i.1).1)),(7,.v (.int .i64 i.1))]) (fun _=>[]) (fun i=>i.2) (fun _=>emp) ⟨(0,H),⟨by simp,Sub.refl _⟩,rfl,rfl,?_⟩ ?_
  · conv=>whnf
    repeat (refine⟨rfl,?_⟩;conv=>whnf)
    exact trivial
  · rintro ⟨i,H'⟩ ⟨h1,h2⟩
    dsimp only at h1 h2
    conv=>whnf
    refine if_intro (fun hc=>?_) (fun hc=>?_)
    · have hi:i < ws.length:=by simpa using hc
      obtain⟨b,off,rfl,hx⟩:=IntsH.at hv hi
      have hwi:=hw ws[i] (List.getElem_mem hi)
      have hg:ws.getD i 0=ws[i]:=by simp[List.getD_eq_getElem?_getD,hi]
      have st:takenF ws a (i+1)=if andI (takenF ws a i).2 (shlI 1 ws[i]) ≠ 0 then (IntKind.i64.wrap ((takenF ws a i).1+shlI 1 i),IntKind.i64.wrap ((takenF ws a i).2 - shlI 1 ws[i])) else takenF ws a i:=by rw[← hg];rfl
      conv=>whnf
      refine dec_intro (by omega) ?_
      conv=>whnf
      refine⟨_,hx _ _ h2,?_⟩
      conv=>whnf
      refine dec_intro hwi ?_
      conv=>whnf
      refine if_intro (fun hq=>?_) (fun hq=>?_)
      · have hq:andI (takenF ws a i).2 (shlI 1 ws[i]) ≠ 0:=neq_true hq
        rw[if_pos hq] at st
        conv=>whnf
        refine dec_intro (by omega) ?_
        conv=>whnf
        refine⟨_,hx _ _ h2,?_⟩
        conv=>whnf
        refine dec_intro hwi ?_
        conv=>whnf
        refine⟨(i+1,H'),⟨hi,h2⟩,by dsimp only;omega,?_⟩
        refine⟨rfl,rfl,?_⟩
        conv=>whnf
        refine⟨by dsimp only;rw[st]<;>rfl,?_⟩
        conv=>whnf
        repeat (refine⟨rfl,?_⟩;conv=>whnf)
        refine⟨by dsimp only;rw[st]<;>rfl,?_⟩
        conv=>whnf
        refine⟨by show En.v (.int .i64 (IntKind.i64.wrap (i+1)))=_;rw[wrap_id (by omega) (by omega)];rfl,?_⟩
        conv=>whnf
        repeat (refine⟨rfl,?_⟩;conv=>whnf)
        exact trivial
      · have hq:andI (takenF ws a i).2 (shlI 1 ws[i])=0:=neq_false hq
        rw[if_neg (fun h=>h hq)] at st
        conv=>whnf
        refine⟨(i+1,H'),⟨hi,h2⟩,by dsimp only;omega,?_⟩
        refine⟨rfl,rfl,?_⟩
        conv=>whnf
        refine⟨by dsimp only;rw[st]<;>rfl,?_⟩
        conv=>whnf
        repeat (refine⟨rfl,?_⟩;conv=>whnf)
        refine⟨by dsimp only;rw[st]<;>rfl,?_⟩
        conv=>whnf
        refine⟨by show En.v (.int .i64 (IntKind.i64.wrap (i+1)))=_;rw[wrap_id (by omega) (by omega)];rfl,?_⟩
        conv=>whnf
        repeat (refine⟨rfl,?_⟩;conv=>whnf)
        exact trivial
    · have hi:i=ws.length:=by
        have h:=of_decide_eq_false hc
        omega
      subst hi
      conv=>whnf
end Go.Proofs.YtgbhgfdgifkdhaaGreat

namespace Go.Proofs.YtgbhgfdgifkdhaaGreat
open Go.Proofs.YtgbhgfdgifkdhaaGreat.X Go.Proofs.YtgbhgfdgifkdhaaGreat.X.PH
set_option maxRecDepth 100000
def clB (k w : Nat):Nat:=if k.testBit w then k - 2 ^ w else k
theorem clB_lt : ∀ k,k < 64→∀ w,w < 6→clB k w < 64:=by decide +kernel
theorem clB_bit : ∀ k,k < 64→∀ w,w < 6→∀ p,p < 6→p ≠ w→(clB k w).testBit p=k.testBit p:=by decide +kernel
theorem clB_comm : ∀ k,k < 64→∀ w,w < 6→∀ p,p < 6→clB (clB k w) p=clB (clB k p) w:=by decide +kernel
theorem clB_not : ∀ k:Nat,k < 64→∀ w:Nat,w < 6→andNotI (k:Int) (shlI 1 (w:Int))=(clB k w:Int):=by decide +kernel
theorem bit_shr : ∀ k:Nat,k < 64→∀ w:Nat,w < 6→andI (shrI (k:Int) (w:Int)) 1=if k.testBit w then 1 else 0:=by decide +kernel
theorem bit_and : ∀ k:Nat,k < 64→∀ w:Nat,w < 6→(andI (k:Int) (shlI 1 (w:Int))=0 ↔ k.testBit w=false):=by decide +kernel
theorem sub_bit : ∀ k:Nat,k < 64→∀ w:Nat,w < 6→k.testBit w=true→IntKind.i64.wrap ((k:Int) - shlI 1 (w:Int))=(clB k w:Int):=by decide +kernel
theorem add_bit : ∀ j:Nat,j < 6→∀ v:Nat,v < 2 ^ j→IntKind.i64.wrap ((v:Int)+shlI 1 (j:Int))=((v+2 ^ j:Nat):Int):=by decide +kernel
theorem or_bit : ∀ j:Nat,j < 6→∀ v:Nat,v < 2 ^ j→orI (v:Int) (shlI 1 (j:Int))=((v+2 ^ j:Nat):Int):=by decide +kernel
theorem or_no : ∀ j:Nat,j < 6→∀ v:Nat,v < 2 ^ j→orI (v:Int) (shlI 0 (j:Int))=(v:Int):=by decide +kernel
def spl (wn : Nat→Nat):Nat→Nat→Nat × Nat
  | 0,k=>(0,k)
  | j+1,k=>((spl wn j (clB k (wn j))).1+(if k.testBit (wn j) then 2 ^ j else 0),(spl wn j (clB k (wn j))).2)
theorem spl_lt (wn : Nat→Nat) (hw:∀ j,wn j < 6):∀ j k,k < 64→(spl wn j k).1 < 2 ^ j∧(spl wn j k).2 < 64
  | 0,k,h=>⟨by simp[spl],h⟩
  | j+1,k,h=>by
    obtain⟨h1,h2⟩:=spl_lt wn hw j _ (clB_lt k h (wn j) (hw j))
    refine⟨?_,h2⟩
    simp only[spl,Nat.pow_succ]
    split<;>omega
theorem spl_bit (wn : Nat→Nat) (hw:∀ j,wn j < 6) {p:Nat} (hp:p < 6):∀ j k,k < 64→(∀ i,i < j→wn i ≠ p)→(spl wn j k).2.testBit p=k.testBit p
  | 0,k,_,_=>rfl
  | j+1,k,h,hn=>by
    have ih:=spl_bit wn hw hp j _ (clB_lt k h (wn j) (hw j)) fun i hi=>hn i (by omega)
    simp only[spl]
    rw[ih,clB_bit k h _ (hw j) p hp (hn j (by omega)).symm]
theorem spl_cl (wn : Nat→Nat) (hw:∀ j,wn j < 6) {p:Nat} (hp:p < 6):∀ j k,k < 64→(∀ i,i < j→wn i ≠ p)→spl wn j (clB k p)=((spl wn j k).1,clB (spl wn j k).2 p)
  | 0,k,_,_=>rfl
  | j+1,k,h,hn=>by
    have ih:=spl_cl wn hw hp j _ (clB_lt k h (wn j) (hw j)) fun i hi=>hn i (by omega)
    simp only[spl]
    rw[clB_comm k h p hp _ (hw j),ih,clB_bit k h p hp _ (hw j) (hn j (by omega))]
theorem spl_succ (wn : Nat→Nat) (hw:∀ j,wn j < 6) (j k:Nat) (h:k < 64) (hn:∀ i,i < j→wn i ≠ wn j):spl wn (j+1) k=((spl wn j k).1+(if (spl wn j k).2.testBit (wn j) then 2 ^ j else 0),clB (spl wn j k).2 (wn j)):=by
  rw[spl_bit wn hw (hw j) j k h hn]
  show ((spl wn j (clB k (wn j))).1+(if k.testBit (wn j) then 2 ^ j else 0),(spl wn j (clB k (wn j))).2)=_
  rw[spl_cl wn hw (hw j) j k h hn]
theorem split_spl (ws : List Int) (wn:Nat→Nat) (hw:∀ j,wn j < 6):∀ (j k:Nat),j≤6→k < 64→(∀ i,i < j→ws.getD i 0=wn i)→splitF ws j (k:Int)=(((spl wn j k).1:Int),((spl wn j k).2:Int))
  | 0,k,_,_,_=>rfl
  | j+1,k,hj,h,he=>by
    have ih:=split_spl ws wn hw j (clB k (wn j)) (by omega) (clB_lt k h _ (hw j)) fun i hi=>he i (by omega)
    obtain⟨l1,_⟩:=spl_lt wn hw j _ (clB_lt k h _ (hw j))
    simp only[splitF,spl]
    rw[he j (by omega),clB_not k h _ (hw j),ih,bit_shr k h _ (hw j)]
    dsimp only
    congr 1
    cases k.testBit (wn j) with
    | true=>exact or_bit j (by omega) _ l1
    | false=>exact or_no j (by omega) _ l1
theorem taken_spl (ws : List Int) (wn:Nat→Nat) (hw:∀ j,wn j < 6) (k:Nat) (h:k < 64):∀ j,j≤6→(∀ i,i < j→ws.getD i 0=wn i)→(∀ a b,a < b→b < j→wn a ≠ wn b)→takenF ws k j=(((spl wn j k).1:Int),((spl wn j k).2:Int))
  | 0,_,_,_=>rfl
  | j+1,hj,he,hd=>by
    have ih:=taken_spl ws wn hw k h j (by omega) (fun i hi=>he i (by omega)) fun a b h1 h2=>hd a b h1 (by omega)
    obtain⟨l1,l2⟩:=spl_lt wn hw j k h
    rw[spl_succ wn hw j k h fun i hi=>hd i j hi (by omega)]
    simp only[takenF]
    rw[he j (by omega),ih]
    dsimp only
    cases e:(spl wn j k).2.testBit (wn j) with
    | true=>
      rw[if_pos (fun q=>by rw[(bit_and _ l2 _ (hw j)).1 q] at e;cases e),add_bit j (by omega) _ l1,sub_bit _ l2 _ (hw j) e]
      rfl
    | false=>
      rw[if_neg (fun q=>q ((bit_and _ l2 _ (hw j)).2 e))]
      simp[clB,e]
theorem taken_split (ws : List Int) (n:Int) (hn:n≤6) (h1:ws.all (inW n)=true) (h2:twiceF ws=false) (k:Nat) (hk:k < 64) (hl:ws.length≤6):takenF ws k ws.length=splitF ws ws.length k:=by
  have hin:∀ x∈ws,0≤x∧x < 6:=fun x hx=>by
    have:=List.all_eq_true.1 h1 x hx
    unfold inW at this
    simp at this
    omega
  have hg:∀ i,i < ws.length→∃ x,ws[i]?=some x∧ws.getD i 0=x∧0≤x∧x < 6:=fun i hi=>by
    have:=hin ws[i] (List.getElem_mem hi)
    exact⟨ws[i],List.getElem?_eq_getElem hi,by simp[List.getD_eq_getElem?_getD,hi],this⟩
  obtain⟨wn,hwn⟩:∃ wn:Nat→Nat,wn=fun j=>(ws.getD j 0).toNat:=⟨_,rfl⟩
  have hw:∀ j,wn j < 6:=fun j=>by
    rw[hwn]
    dsimp only
    by_cases hj:j < ws.length
    · obtain⟨x,_,e,_,_⟩:=hg j hj
      rw[e];omega
    · simp[List.getD_eq_getElem?_getD,List.getElem?_eq_none (Nat.le_of_not_lt hj)]
  have he:∀ i,i < ws.length→ws.getD i 0=(wn i:Int):=fun i hi=>by
    obtain⟨x,_,e,_,_⟩:=hg i hi
    rw[hwn]
    dsimp only
    rw[e];omega
  have hd:∀ a b,a < b→b < ws.length→wn a ≠ wn b:=fun a b hab hb e=>by
    unfold twiceF at h2
    rw[List.any_eq_false] at h2
    have:=h2 b (List.mem_range.2 hb)
    apply this
    rw[List.contains_iff_mem,he b hb,← e,← he a (by omega)]
    obtain⟨x,q1,q2,_⟩:=hg a (by omega)
    rw[q2]
    exact List.mem_take_iff_getElem.2 ⟨a,by omega,by rw[List.getElem?_eq_getElem (by omega)] at q1;exact Option.some.inj q1⟩
  rw[taken_spl ws wn hw k hk ws.length hl he hd,split_spl ws wn hw ws.length k hl hk he]
end Go.Proofs.YtgbhgfdgifkdhaaGreat

namespace Go.Proofs.YtgbhgfdgifkdhaaGreat
open Go.Proofs.YtgbhgfdgifkdhaaGreat.X Go.Proofs.YtgbhgfdgifkdhaaGreat.X.PH
set_option maxRecDepth 100000
def halfR (F : Nat→Nat→(P4 × Int) × Int) (i w b:Nat):List (P4 × Int):=(List.range w).map fun q=>if q < b then (F i q).1 else (P4.zero,0)
theorem halfR_zero (F : Nat→Nat→(P4 × Int) × Int) (i w:Nat):halfR F i w 0=zeros w:=by
  apply List.ext_getElem<;>simp[halfR,zeros]
theorem halfR_full (F : Nat→Nat→(P4 × Int) × Int) (i w:Nat):gridM F (i+1) w=gridM F i w++[halfR F i w w]:=by
  unfold gridM
  rw[List.range_succ,List.map_append]
  congr 1
  rw[List.map_cons,List.map_nil]
  congr 1
  unfold halfR
  refine List.map_congr_left fun q hq=>?_
  rw[if_pos (List.mem_range.1 hq)]
theorem halfR_set (F : Nat→Nat→(P4 × Int) × Int) (i w b:Nat) (x:P4 × Int) (hx:(F i b).1=x):(halfR F i w b).set b x=halfR F i w (b+1):=by
  apply List.ext_getElem
  · simp[halfR]
  intro q h1 h2
  rw[List.getElem_set]
  simp only[halfR,List.getElem_map,List.getElem_range]
  split
  · rename_i e
    subst e
    rw[if_pos (by omega),hx]
  · by_cases h:q < b
    · rw[if_pos h,if_pos (by omega)]
    · rw[if_neg h,if_neg (by omega)]
theorem halfR_skip (F : Nat→Nat→(P4 × Int) × Int) (i w b:Nat) (hx:(F i b).1=(P4.zero,0)):halfR F i w (b+1)=halfR F i w b:=by
  apply List.map_congr_left
  intro q hq
  by_cases h:q < b
  · rw[if_pos h,if_pos (by omega)]
  · rw[if_neg h]
    split
    · have:q=b:=by omega
      rw[this,hx]
    · rfl
theorem gridM_len (F : Nat→Nat→(P4 × Int) × Int) (h w:Nat):(gridM F h w).length=h:=(gridM_shape F h w).1
theorem c19 (m : Mx) (hlm:m.length < 1000000) (ws:List Int) (hws:ws.length < 100000) (n:Int) (H:PH) (u v:Value) (hu:MatH H u m) (hv:IntsH H v ws) :
    Cl Tryz.prog 41 [u,v,.int .i64 n] H emp fun r _ M'=>OutO M' r (resM (onErr m ws n) (onAt m ws) (2 ^ n.toNat) (2 ^ n.toNat)):=by
  obtain⟨base,cap,rfl⟩:=hu.sl
  obtain⟨wb,wc,rfl,_⟩:=id hv
  refine Cl_of (pol:=polL) Γok Tryz.func41 (by kernel_rfl) rfl ?_
  conv=>whnf
  refine (c30 m _ _ hu).val fun H1 s1=>?_
  have bad:∀ e,onErr m ws n=e→e ≠ 0→OutO emp (.tuple #[.slice none 0 0,.int .i64 e]) (resM (onErr m ws n) (onAt m ws) (2 ^ n.toNat) (2 ^ n.toNat)):=fun e he h=>by
    rw[he,resM_bad h]
    exact .bad
  conv=>whnf
  refine if_intro (fun he=>?_) (fun he=>?_)
  · conv=>whnf
    have he:checkMR m ≠ 0:=by simpa using he
    refine bad _ ?_ he
    unfold onErr;rw[checkMF_checkMR,if_pos he]
  have he:checkMR m=0:=by simpa using he
  have hf:checkMF m=0:=by rw[checkMF_checkMR,he]
  have rm:=right_of hf
  conv=>whnf
  have err3:(decide (n < 0) || decide (n > 6))=true→onErr m ws n=3:=fun h=>by
    unfold onErr;rw[if_neg (by simpa using hf),if_pos h]
  refine if_intro (fun h1=>?_) (fun h1=>?_)
  · conv=>whnf
    exact bad _ (err3 (by rw[h1];rfl)) (by decide)
  conv=>whnf
  refine if_intro (fun h2=>?_) (fun h2=>?_)
  · conv=>whnf
    exact bad _ (err3 (by rw[h2,Bool.or_true])) (by decide)
  have h12:(decide (n < 0) || decide (n > 6))=false:=by rw[h1,h2];rfl
  conv=>whnf
  refine (c70 ws n (by omega) _ _ (IntsH.up hv s1)).val fun H2 s2=>?_
  conv=>whnf
  have epl:placesR ws n ≠ 0→onErr m ws n=placesR ws n:=fun h=>by
    unfold onErr
    rw[if_neg (by simpa using hf),if_neg (by rw[h12];simp)]
    unfold placesR at h ⊢
    split
    · rfl
    · rename_i h3
      rw[if_neg h3] at h
      split
      · rfl
      · rename_i h4
        rw[if_neg h4] at h
        exact absurd rfl h
  refine if_intro (fun h3=>?_) (fun h3=>?_)
  · have h3:placesR ws n ≠ 0:=by simpa using h3
    conv=>whnf
    exact bad _ (epl h3) h3
  have h3:placesR ws n=0:=by simpa using h3
  have hall:ws.all (inW n)=true:=by
    cases e:ws.all (inW n) with
    | true=>rfl
    | false=>unfold placesR at h3;rw[if_pos e] at h3;cases h3
  have htw:twiceF ws=false:=by
    cases e:twiceF ws with
    | false=>rfl
    | true=>unfold placesR at h3;rw[if_neg (by rw[hall];simp),if_pos e] at h3;cases h3
  have err7:((m.length:Int) == (wideM m:Int))=false∨(m.length:Int) ≠ shlI 1 ws.length→onErr m ws n=7:=fun h=>by
    unfold onErr
    rw[if_neg (by simpa using hf),if_neg (by rw[h12];simp),if_neg (by rw[hall];simp),if_neg (by rw[htw];simp),if_pos h]
  conv=>whnf
  refine if_intro (fun h4=>?_) (fun h4=>?_)
  · have h4:(m.length:Int) ≠ shlI 1 ws.length:=by simpa[shlI] using h4
    conv=>whnf
    exact bad _ (err7 (.inr h4)) (by decide)
  have h4:(m.length:Int)=shlI 1 ws.length:=by simpa[shlI] using h4
  obtain⟨hL,hM⟩:=shl_len h4 rm.pos rm.le
  obtain⟨b0,off0,rb,rc,rfl,hrd0,hn0⟩:=hu.at rm.pos
  conv=>whnf
  refine dec_intro (by have:=rm.pos;omega) ?_
  conv=>whnf
  refine⟨_,hrd0 _ _ (s1.trans s2),?_⟩
  conv=>whnf
  rw[← wideM_get rm.pos]
  refine if_intro (fun h5=>?_) (fun h5=>?_)
  · have h5:(wideM m:Int) ≠ m.length:=by simpa using h5
    conv=>whnf
    exact bad _ (err7 (.inl (by simpa using fun e=>h5 (by rw[e])))) (by decide)
  have h5:wideM m=m.length:=by
    have:(wideM m:Int)=m.length:=by simpa using h5
    omega
  have err0:onErr m ws n=0:=by
    unfold onErr
    rw[if_neg (by simpa using hf),if_neg (by rw[h12];simp),if_neg (by rw[hall];simp),if_neg (by rw[htw];simp),if_neg (by rw[h5,← h4];simp)]
  conv=>whnf
  have hn1:=of_decide_eq_false h1
  have hn2:=of_decide_eq_false h2
  obtain⟨n,rfl⟩:=nat_of (a:=n) (by omega)
  rw[show 2 ^ (n:Int).toNat=2 ^ n by rw[Int.toNat_natCast]]
  have p2:2 ^ n≤64:=by
    have:2 ^ n≤2 ^ 6:=Nat.pow_le_pow_right (by decide) (by omega)
    omega
  have hw0:∀ w∈ws,0≤w:=fun x hx=>by
    have:=List.all_eq_true.1 hall x hx
    unfold inW at this
    simp at this
    omega
  have hl6:ws.length≤6:=by
    rcases Nat.lt_or_ge 6 ws.length with h | h
    · have:2 ^ 7≤2 ^ ws.length:=Nat.pow_le_pow_right (by decide) h
      have:=rm.le
      omega
    · exact h
  have bnd:∀ k:Nat,0≤(splitF ws ws.length k).1∧(splitF ws ws.length k).1 < m.length:=fun k=>by
    have:=splitF_bound ws ws.length k (by omega)
    rw[hM]
    simpa using this
  have tks:∀ k:Nat,k < 64→takenF ws k ws.length=splitF ws ws.length k:=fun k hk=>taken_split ws n (by omega) hall htw k hk hl6
  rw[resM_ok err0 (errs_zero fun i k hi hk=>by
    unfold onAt
    split
    · rfl
    · obtain⟨b1',b2'⟩:=bnd i
      obtain⟨b3',b4'⟩:=bnd k
      obtain⟨p,hp⟩:∃ p:Nat,(splitF ws ws.length i).1=p:=⟨(splitF ws ws.length i).1.toNat,by omega⟩
      obtain⟨q,hqq⟩:∃ q:Nat,(splitF ws ws.length k).1=q:=⟨(splitF ws ws.length k).1.toNat,by omega⟩
      have hpl:p < m.length:=by omega
      have hql:q < m[p].length:=by rw[rm.row _ (List.getElem_mem hpl),h5];omega
      have hck0:=(checkMR_zero he).2.2.2 _ (List.getElem_mem hpl) _ (List.getElem_mem hql)
      rw[hp,hqq,Int.toNat_natCast,Int.toNat_natCast,entry_get hpl hql,LeastF_eq (by rw[checkF_checkR];exact hck0)])]
  conv=>whnf
  rw[shl1 (by omega)]
  obtain⟨s,hs⟩:∃ s,s=2 ^ n:=⟨_,rfl⟩
  have shs:IntKind.i64.wrap (1*2 ^ (min (n:Int).toNat IntKind.i64.bits))=(s:Int):=by rw[shl1 (by omega),hs]
  rw[← hs] at p2 ⊢
  refine dec_intro (Int.le_refl _) ?_
  conv=>whnf
  refine dec_intro (by omega) ?_
  conv=>whnf
  refine dec_intro (by omega) ?_
  conv=>whnf
  intro b1 hb1 _
  conv=>whnf
  refine W_loop (pol:=polL) Γok (Nat × List Nat × PH × PH) (fun i=>i.1≤s∧Sub H2 i.2.2.1∧HalfM i.2.2.2 b1 s s i.2.1 (gridM (onAt m ws) i.1 s)) (fun i=>s - i.1) (fun i=>[(11,.v (.int .i64 i.1))]) (fun _=>[]) (fun i=>i.2.2.1) (fun i=>i.2.2.2) ⟨(0,[],H2,_),⟨by simp,Sub.refl _,HalfM.start b1 s s emp⟩,rfl,rfl,?_⟩ ?_
  · conv=>whnf
    repeat (refine⟨rfl,?_⟩;conv=>whnf)
    exact trivial
  · rintro ⟨i,bs,H3,O'⟩ ⟨k1,s3,g⟩
    dsimp only at k1 s3 g
    conv=>whnf
    rw[shs]
    refine if_intro (fun hc=>?_) (fun hc=>?_)
    · have hi:i < s:=by simpa using hc
      have hbl:i=bs.length:=by rw[g.rows.len,gridM_len]
      conv=>whnf
      rw[shs]
      refine dec_intro (Int.le_refl _) ?_
      conv=>whnf
      refine dec_intro (by omega) ?_
      conv=>whnf
      refine dec_intro (by omega) ?_
      conv=>whnf
      intro b hb hO
      conv=>whnf
      refine dec_intro (by omega) ?_
      conv=>whnf
      obtain⟨cs,q1,q2,g2⟩:=g.row hbl hi hO
      refine⟨cs,_,q1,q2,?_⟩
      conv=>whnf
      have t3:Sub H H3:=s1.trans (s2.trans s3)
      refine (c71 ws (by omega) hw0 i _ _ (IntsH.up hv t3)).val fun H4 s4=>?_
      rw[tks i (by omega)]
      conv=>whnf
      have hml:i=(gridM (onAt m ws) i s).length:=(gridM_len _ _ _).symm
      rw[← halfR_zero (onAt m ws) i s] at g2
      refine W_loop (pol:=polL) Γok (Nat × PH × PH) (fun k=>k.1≤s∧Sub H4 k.2.1∧HalfM k.2.2 b1 s s (bs++[b]) (gridM (onAt m ws) i s++[halfR (onAt m ws) i s k.1])) (fun k=>s - k.1) (fun k=>[(14,.v (.int .i64 k.1))]) (fun _=>[]) (fun k=>k.2.1) (fun k=>k.2.2) ⟨(0,H4,_),⟨by simp,Sub.refl _,g2⟩,rfl,rfl,?_⟩ ?_
      · conv=>whnf
        repeat (refine⟨rfl,?_⟩;conv=>whnf)
        exact trivial
      · rintro ⟨k,H5,O2⟩ ⟨j1,s5,gk⟩
        dsimp only at j1 s5 gk
        conv=>whnf
        rw[shs]
        refine if_intro (fun hck=>?_) (fun hck=>?_)
        · have hk:k < s:=by simpa using hck
          conv=>whnf
          have t5:Sub H H5:=t3.trans (s4.trans s5)
          refine (c71 ws (by omega) hw0 k _ _ (IntsH.up hv t5)).val fun H6 s6=>?_
          rw[tks k (by omega)]
          conv=>whnf
          refine if_intro (fun hq=>?_) (fun hq=>?_)
          · have hq:(splitF ws ws.length i).2=(splitF ws ws.length k).2:=by simpa using hq
            obtain⟨b1',b2'⟩:=bnd i
            obtain⟨b3',b4'⟩:=bnd k
            obtain⟨p,hp⟩:∃ p:Nat,(splitF ws ws.length i).1=p:=⟨(splitF ws ws.length i).1.toNat,by omega⟩
            obtain⟨q,hqq⟩:∃ q:Nat,(splitF ws ws.length k).1=q:=⟨(splitF ws ws.length k).1.toNat,by omega⟩
            have hpl:p < m.length:=by omega
            have hql:q < m[p].length:=by rw[rm.row _ (List.getElem_mem hpl),h5];omega
            have hck0:=(checkMR_zero he).2.2.2 _ (List.getElem_mem hpl) _ (List.getElem_mem hql)
            have hF:(onAt m ws i k).1=formR m[p][q].1 m[p][q].2:=by
              unfold onAt
              rw[if_neg (by rw[hq];simp),hp,hqq,Int.toNat_natCast,Int.toNat_natCast,entry_get hpl hql,LeastF_eq (by rw[checkF_checkR];exact hck0)]
            obtain⟨c1,c2,_⟩:=checkR_zero hck0
            obtain⟨rb',ro',rb2,rc2,hbe,hrd,hnum⟩:=hu.at hpl
            cases hbe
            obtain⟨eb,eo,rfl,hx⟩:=hnum.at hql
            rw[hp,hqq]
            conv=>whnf
            have him:i < (gridM (onAt m ws) i s++[halfR (onAt m ws) i s k]).length:=by rw[List.length_append,gridM_len];simp
            refine W_lend (parts_only _ b1) fun hd=>?_
            obtain⟨bb,hbb,hne,hl,hOb,hOb',hrl⟩:=gk.lent him hd
            have hkl:k < ((gridM (onAt m ws) i s++[halfR (onAt m ws) i s k])[i]).length:=by rw[hl];exact hk
            have g3:=gk.setN (formR m[p][q].1 m[p][q].2) hbb him hkl
            rw[setM_last _ _ hml,halfR_set _ _ _ _ _ hF] at g3
            refine W_draw (pol:=polL) Γok mixes [(0,.pend),(1,.pend),(2,.pend),(3,.pend),(4,.pend),(5,.pendO),(6,.pendO),(7,.pendO),(8,.pendO),(9,.pendO),(10,.pendO),(11,.pendO),(12,.lock),(13,.pendO),(14,.lock)] 100 (by kernel_rfl) rfl ?_
            conv=>whnf
            refine dec_intro (by omega) ?_
            conv=>whnf
            refine⟨_,hrl _ _ (Sub.refl _),?_⟩
            conv=>whnf
            refine dec_intro (by omega) ?_
            conv=>whnf
            refine⟨_,hrd _ _ ((t5.trans s6).trans (sub_un _ _)),?_⟩
            conv=>whnf
            refine dec_intro (by omega) ?_
            conv=>whnf
            refine⟨_,hx _ _ ((t5.trans s6).trans (sub_un _ _)),?_⟩
            conv=>whnf
            refine (c72 m[p][q].1 m[p][q].2 (by omega) (by omega) _).val fun H7 s7=>?_
            conv=>whnf
            refine dec_intro (by omega) ?_
            conv=>whnf
            refine⟨_,_,hOb',?_,?_⟩
            · show _≤(cellsN _).length
              rw[cellsN_length,hl]
              simp only[Int.toNat_natCast,List.length_cons,List.length_nil]
              omega
            conv=>whnf
            refine⟨fun n o hn=>s7 n o (un_right hd hn),fun q b3 hq hp=>(noLoc (by simp) hq).elim,fun H8 e1 e2=>?_⟩
            conv=>whnf
            have s8:Sub H4 H8:=fun n o hn=>by
              have h1:=s6 n o (s5 n o hn)
              have h2:=(hd n).resolve_left (by rw[h1];simp)
              exact (e1 n h2).trans (s7 n o (sub_un _ _ n o h1))
            rw[← un_only hne gk.list] at g3
            refine⟨(k+1,H8,_),⟨hk,s8,g3⟩,by dsimp only;omega,?_⟩
            refine⟨rfl,rfl,?_⟩
            conv=>whnf
            repeat (refine⟨rfl,?_⟩;conv=>whnf)
            refine⟨by show En.v (.int .i64 (IntKind.i64.wrap (k+1)))=_;rw[wrap_id (by omega) (by omega)];rfl,?_⟩
            conv=>whnf
            repeat (refine⟨rfl,?_⟩;conv=>whnf)
            exact trivial
          · have hq:(splitF ws ws.length i).2 ≠ (splitF ws ws.length k).2:=by simpa using hq
            have hF:(onAt m ws i k).1=(P4.zero,0):=by
              unfold onAt
              rw[if_pos hq]
            conv=>whnf
            refine⟨(k+1,H6,O2),⟨hk,s5.trans s6,?_⟩,by dsimp only;omega,?_⟩
            · dsimp only
              rw[halfR_skip _ _ _ _ hF]
              exact gk
            refine⟨rfl,rfl,?_⟩
            conv=>whnf
            repeat (refine⟨rfl,?_⟩;conv=>whnf)
            refine⟨by show En.v (.int .i64 (IntKind.i64.wrap (k+1)))=_;rw[wrap_id (by omega) (by omega)];rfl,?_⟩
            conv=>whnf
            repeat (refine⟨rfl,?_⟩;conv=>whnf)
            exact trivial
        · have hk:k=s:=by
            have h:=of_decide_eq_false hck
            omega
          subst hk
          rw[← halfR_full] at gk
          conv=>whnf
          refine⟨(i+1,bs++[b],H5,O2),⟨hi,s3.trans (s4.trans s5),gk⟩,by dsimp only;omega,?_⟩
          refine⟨rfl,rfl,?_⟩
          conv=>whnf
          repeat (refine⟨rfl,?_⟩;conv=>whnf)
          refine⟨by show En.v (.int .i64 (IntKind.i64.wrap (i+1)))=_;rw[wrap_id (by omega) (by omega)];rfl,?_⟩
          conv=>whnf
          repeat (refine⟨rfl,?_⟩;conv=>whnf)
          exact trivial
    · have hi:i=s:=by
        have h:=of_decide_eq_false hc
        omega
      subst hi
      conv=>whnf
      exact⟨_,rfl,.inr ⟨i,i,by omega,by omega,g.own (gridM_len _ _ _)⟩⟩
end Go.Proofs.YtgbhgfdgifkdhaaGreat

namespace Go.Proofs.YtgbhgfdgifkdhaaGreat
open Go.Proofs.YtgbhgfdgifkdhaaGreat.X Go.Proofs.YtgbhgfdgifkdhaaGreat.X.PH
set_option maxRecDepth 100000
theorem OwnQ.pub {H M : PH} (hd:Dis H M) {u:Value} {x:Mx} (h:OwnQ M u x):∃ H' M',Repart H M H' M'∧MatH H' u x:=⟨_,_,.all hd,h.share hd⟩
theorem c68h (to : List Int) (k:Mx) (hn:to.length < 1000) (ht:∀ k,k < to.length→to[k]?=some (((to.getD k 0).toNat:Nat):Int)∧(to.getD k 0).toNat < to.length) (hk:movedM (fun k=>(to.getD k 0).toNat) to.length to.length=k) (H:PH) (v:Value) (hv:IntsH H v to) :
    Cl Tryz.prog 35 [v] H emp fun r H' _=>MatH H' r k:=
  (c68 to (fun k=>(to.getD k 0).toNat) hn ht H v hv).repart fun _ _ _ _ hd h=>by rw[hk] at h;exact h.pub hd
theorem c69h (ps : List Int) (k:Mx) (hn:ps.length < 1000) (ht:∀ k,k < ps.length→ps[k]?=some (((ps.getD k 0).toNat:Nat):Int)∧(ps.getD k 0).toNat < 8) (hk:diagR (fun p=>OmegaF ((ps.getD p 0).toNat:Nat)) ps.length ps.length=k) (H:PH) (v:Value) (hv:IntsH H v ps) :
    Cl Tryz.prog 36 [v] H emp fun r H' _=>MatH H' r k:=
  (c69 ps (fun k=>(ps.getD k 0).toNat) hn ht H v hv).repart fun _ _ _ _ hd h=>by rw[hk] at h;exact h.pub hd
def OfR (kind : Int):Mx × Int:=if 1≤kind∧kind≤12 then (opM kind.toNat,0) else ([],3)
theorem c18 (kind : Int) (H:PH):Cl Tryz.prog 7 [.int .i64 kind] H emp fun r H' _=>OutH H' r (OfR kind):=by
  refine Cl_of (pol:=fun _=>.imm) Γok Tryz.func7 (by kernel_rfl) rfl ?_
  conv=>whnf
  refine if_intro (fun h1=>?_) (fun h1=>?_)
  · have h1:kind=1:=by simpa using h1
    subst h1
    conv=>whnf
    intro b hb _
    conv=>whnf
    refine (c68h [1,0] (opM 1) (by decide) (by decide) (by kernel_rfl) _ _ (ints_lit (ins_same _ _ _))).use fun r H1 s1 hr=>?_
    conv=>whnf
    obtain⟨_,hr⟩:=hr
    exact⟨r,rfl,hr⟩
  conv=>whnf
  refine if_intro (fun h2=>?_) (fun h2=>?_)
  · have h2:kind=2:=by simpa using h2
    subst h2
    conv=>whnf
    intro b1 hb1 _
    conv=>whnf
    intro b2 hb2 _
    conv=>whnf
    intro b3 hb3 _
    conv=>whnf
    refine⟨_,rfl,?_⟩
    have s2:=sub_ins _ (.cells ⟨cellsOf (OmegaF 2)++cellsOf ((P4.zero,0):P4 × Int)⟩ 33 (0,0)) hb2
    have s3:=sub_ins _ (.cells ⟨[rowV b1 2,rowV b2 2]⟩ 31 (0,0)) hb3
    exact mat2 (ins_same _ _ _) (NumH.up (NumH.up (pair_num (ins_same _ _ _)) s2) s3) (NumH.up (pair_num (ins_same _ _ _)) s3)
  conv=>whnf
  refine if_intro (fun h3=>?_) (fun h3=>?_)
  · have h3:kind=3:=by simpa using h3
    subst h3
    conv=>whnf
    intro b hb _
    conv=>whnf
    refine (c69h [0,4] (opM 3) (by decide) (by decide) (by kernel_rfl) _ _ (ints_lit (ins_same _ _ _))).use fun r H1 s1 hr=>?_
    conv=>whnf
    obtain⟨_,hr⟩:=hr
    exact⟨r,rfl,hr⟩
  conv=>whnf
  refine if_intro (fun h4=>?_) (fun h4=>?_)
  · have h4:kind=4:=by simpa using h4
    subst h4
    conv=>whnf
    intro b1 hb1 _
    conv=>whnf
    intro b2 hb2 _
    conv=>whnf
    intro b3 hb3 _
    conv=>whnf
    refine⟨_,rfl,?_⟩
    have s2:=sub_ins _ (.cells ⟨cellsOf rootN++cellsOf minusN⟩ 33 (0,0)) hb2
    have s3:=sub_ins _ (.cells ⟨[rowV b1 2,rowV b2 2]⟩ 31 (0,0)) hb3
    exact mat2 (ins_same _ _ _) (NumH.up (NumH.up (pair_num (ins_same _ _ _)) s2) s3) (NumH.up (pair_num (ins_same _ _ _)) s3)
  conv=>whnf
  refine if_intro (fun h5=>?_) (fun h5=>?_)
  · have h5:kind=5:=by simpa using h5
    subst h5
    conv=>whnf
    intro b hb _
    conv=>whnf
    refine (c69h [0,2] (opM 5) (by decide) (by decide) (by kernel_rfl) _ _ (ints_lit (ins_same _ _ _))).use fun r H1 s1 hr=>?_
    conv=>whnf
    obtain⟨_,hr⟩:=hr
    exact⟨r,rfl,hr⟩
  conv=>whnf
  refine if_intro (fun h6=>?_) (fun h6=>?_)
  · have h6:kind=6:=by simpa using h6
    subst h6
    conv=>whnf
    intro b hb _
    conv=>whnf
    refine (c69h [0,6] (opM 6) (by decide) (by decide) (by kernel_rfl) _ _ (ints_lit (ins_same _ _ _))).use fun r H1 s1 hr=>?_
    conv=>whnf
    obtain⟨_,hr⟩:=hr
    exact⟨r,rfl,hr⟩
  conv=>whnf
  refine if_intro (fun h7=>?_) (fun h7=>?_)
  · have h7:kind=7:=by simpa using h7
    subst h7
    conv=>whnf
    intro b hb _
    conv=>whnf
    refine (c69h [0,1] (opM 7) (by decide) (by decide) (by kernel_rfl) _ _ (ints_lit (ins_same _ _ _))).use fun r H1 s1 hr=>?_
    conv=>whnf
    obtain⟨_,hr⟩:=hr
    exact⟨r,rfl,hr⟩
  conv=>whnf
  refine if_intro (fun h8=>?_) (fun h8=>?_)
  · have h8:kind=8:=by simpa using h8
    subst h8
    conv=>whnf
    intro b hb _
    conv=>whnf
    refine (c69h [0,7] (opM 8) (by decide) (by decide) (by kernel_rfl) _ _ (ints_lit (ins_same _ _ _))).use fun r H1 s1 hr=>?_
    conv=>whnf
    obtain⟨_,hr⟩:=hr
    exact⟨r,rfl,hr⟩
  conv=>whnf
  refine if_intro (fun h9=>?_) (fun h9=>?_)
  · have h9:kind=9:=by simpa using h9
    subst h9
    conv=>whnf
    intro b hb _
    conv=>whnf
    refine (c68h [0,3,2,1] (opM 9) (by decide) (by decide) (by kernel_rfl) _ _ (ints_lit (ins_same _ _ _))).use fun r H1 s1 hr=>?_
    conv=>whnf
    obtain⟨_,hr⟩:=hr
    exact⟨r,rfl,hr⟩
  conv=>whnf
  refine if_intro (fun h10=>?_) (fun h10=>?_)
  · have h10:kind=10:=by simpa using h10
    subst h10
    conv=>whnf
    intro b hb _
    conv=>whnf
    refine (c69h [0,0,0,4] (opM 10) (by decide) (by decide) (by kernel_rfl) _ _ (ints_lit (ins_same _ _ _))).use fun r H1 s1 hr=>?_
    conv=>whnf
    obtain⟨_,hr⟩:=hr
    exact⟨r,rfl,hr⟩
  conv=>whnf
  refine if_intro (fun h11=>?_) (fun h11=>?_)
  · have h11:kind=11:=by simpa using h11
    subst h11
    conv=>whnf
    intro b hb _
    conv=>whnf
    refine (c68h [0,2,1,3] (opM 11) (by decide) (by decide) (by kernel_rfl) _ _ (ints_lit (ins_same _ _ _))).use fun r H1 s1 hr=>?_
    conv=>whnf
    obtain⟨_,hr⟩:=hr
    exact⟨r,rfl,hr⟩
  conv=>whnf
  refine if_intro (fun h12=>?_) (fun h12=>?_)
  · have h12:kind=12:=by simpa using h12
    subst h12
    conv=>whnf
    intro b hb _
    conv=>whnf
    refine (c68h [0,1,2,7,4,5,6,3] (opM 12) (by decide) (by decide) (by kernel_rfl) _ _ (ints_lit (ins_same _ _ _))).use fun r H1 s1 hr=>?_
    conv=>whnf
    obtain⟨_,hr⟩:=hr
    exact⟨r,rfl,hr⟩
  conv=>whnf
  have e:OfR kind=([],3):=by
    unfold OfR
    rw[if_neg]
    rintro ⟨q1,q2⟩
    simp at h1 h2 h3 h4 h5 h6 h7 h8 h9 h10 h11 h12
    omega
  rw[e]
  exact⟨_,rfl,nilM _⟩
end Go.Proofs.YtgbhgfdgifkdhaaGreat

namespace Go.Proofs.YtgbhgfdgifkdhaaGreat
open Go.Proofs.YtgbhgfdgifkdhaaGreat.X Go.Proofs.YtgbhgfdgifkdhaaGreat.X.PH
set_option maxRecDepth 100000
def newH (H0 H : PH):PH:=fun n=>match H0 n with
  | some _=>none
  | none=>H n
theorem newH_some {H0 H : PH} {n:Nat} {o:Obj} (h0:H0 n=none) (h:H n=some o):newH H0 H n=some o:=by simp[newH,h0,h]
theorem newH_up {H0 H H' : PH} (hs:Sub H H'):Sub (newH H0 H) (newH H0 H'):=fun n o hn=>by
  unfold newH at hn ⊢
  cases e:H0 n with
  | some _=>rw[e] at hn;cases hn
  | none=>rw[e] at hn;exact hs n o hn
theorem newH_base {H0 H1 H : PH} (hs:Sub H0 H1):Sub (newH H1 H) (newH H0 H):=fun n o hn=>by
  unfold newH at hn ⊢
  cases e:H1 n with
  | some _=>rw[e] at hn;cases hn
  | none=>
    rw[e] at hn
    cases e0:H0 n with
    | some o'=>rw[hs n o' e0] at e;cases e
    | none=>exact hn
def MatN (H0 H : PH) (v:Value) (m:Mx):Prop:=∃ h w,h < 1000000∧w < 1000000∧OwnM (newH H0 H) v h w m
theorem MatN.up {H0 H H' : PH} {v:Value} {m:Mx} (h:MatN H0 H v m) (hs:Sub H H'):MatN H0 H' v m:=by
  obtain⟨a,b,h1,h2,h3⟩:=h
  exact⟨a,b,h1,h2,h3.up (newH_up hs)⟩
theorem MatN.base {H0 H1 H : PH} {v:Value} {m:Mx} (h:MatN H1 H v m) (hs:Sub H0 H1):MatN H0 H v m:=by
  obtain⟨a,b,h1,h2,h3⟩:=h
  exact⟨a,b,h1,h2,h3.up (newH_base hs)⟩
def ListN (H0 H : PH) (v:Value) (bs:List Nat) (h w:Nat):Prop:=∃ b0,v=.slice (some ⟨b0,0,none⟩) h h∧H0 b0=none∧H b0=some (.cells ⟨bs.map fun b=>rowV b w⟩ 31 (0,0))
theorem ListN.up {H0 H H' : PH} {v:Value} {bs:List Nat} {h w:Nat} (k:ListN H0 H v bs h w) (hs:Sub H H'):ListN H0 H' v bs h w:=by
  obtain⟨b0,h1,h2,h3⟩:=k
  exact⟨b0,h1,h2,hs _ _ h3⟩
theorem RowsB.new {H0 H M : PH} (hs:Sub H0 H) (hd:Dis H M) {v:Value} {bs:List Nat} {h w:Nat} {m:Mx} (hh:h < 1000000) (hw:w < 1000000) (hm:RowsB H M v bs h w m) (hl:ListN H0 H v bs h w):MatN H0 (un H M) v m:=by
  obtain⟨b0,rfl,h2,h3⟩:=hl
  have hM:∀ b o,M b=some o→newH H0 (un H M) b=some o:=fun b o hb=>by
    have h1:H b=none:=(hd b).resolve_right (by rw[hb];simp)
    have h0:H0 b=none:=by
      cases e:H0 b with
      | none=>rfl
      | some o'=>rw[hs b o' e] at h1;cases h1
    exact newH_some h0 (un_right hd hb)
  refine⟨h,w,hh,hw,hm.len,hm.wid,bs,b0,⟨hm.rows.len,hm.rows.nodup,fun i b r h4 h5=>hM _ _ (hm.rows.cells i b r h4 h5)⟩,fun hb=>?_,rfl,newH_some h2 (by simp[un,h3])⟩
  obtain⟨i,hi,e⟩:=List.mem_iff_getElem.1 hb
  have:=hm.rows.cells i b0 (m[i]'(by rw[← hm.rows.len];exact hi)) (by rw[List.getElem?_eq_getElem hi,e]) (List.getElem?_eq_getElem _)
  rcases hd b0 with h | h
  · rw[h3] at h;cases h
  · rw[this] at h;cases h
theorem c73n (h w : Nat) (hh:h < 1000000) (hw:w < 1000000) (H:PH):Cl Tryz.prog 105 [.int .i64 h,.int .i64 w] H emp fun r H' M'=>∃ bs base cap,r=.slice base h cap∧RowsB H' M' r bs h w (List.replicate h (zeros w))∧ListN H H' r bs h w:=by
  refine (c73 h w hh hw H).repart fun r H' M' hs hd hq=>?_
  obtain⟨_,hq⟩:=hq
  obtain⟨bs,b0,rfl,hB⟩:=hq.ownB
  have hb0:H' b0=none:=(hd b0).resolve_right (by rw[hB.list];simp)
  refine⟨_,_,.one hd hB.list,bs,_,_,rfl,⟨hB.rows.of_sub fun b hb=>del_ne _ fun e=>by subst e;exact hB.nb hb,⟨_,_,rfl,.inr ⟨b0,0,_,_,_,rfl,ins_same _ _ _,?_⟩⟩,hB.len,hB.wid⟩,b0,rfl,?_,ins_same _ _ _⟩
  · rw[List.drop_zero]
    exact List.take_length
  · cases e:H b0 with
    | none=>rfl
    | some o=>rw[hs _ _ e] at hb0;cases hb0
theorem c133n (t : Nat→Nat) (n:Nat) (hn:n < 1000000) (ht:∀ k,k < n→t k < n) (H:PH) (fn:Fn) (first cp:Array Value) (hf:∀ k,k < n→Does Tryz.prog H (.func fn first cp) [.int .i64 k] fun r _=>r=.int .i64 (t k)) :
    Cl Tryz.prog 192 [.int .i64 n,.func fn first cp] H emp fun r H' M'=>∃ bs,RowsB H' M' r bs n n (movedM t n n)∧ListN H H' r bs n n:=by
  refine Cl_of (pol:=polL) Γok Tryz.func192 (by kernel_rfl) rfl ?_
  conv=>whnf
  refine (c73n n n hn hn H).mono fun r H1 M1 hs1 hq=>?_
  obtain⟨bs,base,cap,rfl,hB,hF⟩:=hq
  conv=>whnf
  refine W_loop (pol:=polL) Γok (Nat × PH × PH) (fun i=>i.1≤n∧Sub H1 i.2.1∧RowsB H1 i.2.2 (.slice base n cap) bs n n (movedM t n i.1)) (fun i=>n - i.1) (fun i=>[(11,.v (.int .i64 i.1))]) (fun _=>[]) (fun i=>i.2.1) (fun i=>i.2.2) ⟨(0,H1,M1),⟨by simp,Sub.refl _,hB⟩,rfl,rfl,?_⟩ ?_
  · conv=>whnf
    repeat (refine⟨rfl,?_⟩;conv=>whnf)
    exact trivial
  · rintro ⟨i,H',O⟩ ⟨h1,h2,h3⟩
    dsimp only at h1 h2 h3
    conv=>whnf
    refine if_intro (fun hg=>?_) (fun hg=>?_)
    · have hi:i < n:=by simpa using hg
      conv=>whnf
      refine W_draw (pol:=polL) Γok mixes [(0,.pend),(1,.pendO),(2,.pendO),(6,.pend),(3,.lock),(4,.pend),(5,.pend),(7,.lock),(8,.pendO),(9,.lock)] 25 (by kernel_rfl) rfl ?_
      conv=>whnf
      refine (((hf i hi).up hs1).up h2).use fun r H2 hs2 hr=>?_
      subst hr
      conv=>whnf
      obtain⟨b0,off,b,r,rfl,hb,hr,hl,hO,hrd⟩:=(h3.up (h2.trans hs2)).row (ht i hi)
      have hti:=ht i hi
      conv=>whnf
      refine dec_intro (by omega) ?_
      conv=>whnf
      refine⟨_,hrd _,?_⟩
      conv=>whnf
      refine (c74 _).val fun H3 hs3=>?_
      conv=>whnf
      refine dec_intro (by omega) ?_
      conv=>whnf
      refine⟨_,_,hO,?_,?_⟩
      · show _≤(cellsN r).length
        rw[cellsN_length,hl]
        simp only[Int.toNat_natCast,List.length_cons,List.length_nil]
        omega
      conv=>whnf
      refine⟨(i+1,H3,_),⟨hi,h2.trans (hs2.trans hs3),h3.set hb hr hi oneN⟩,by dsimp only;omega,?_⟩
      conv=>whnf
      refine⟨rfl,rfl,?_⟩
      conv=>whnf
      repeat (refine⟨rfl,?_⟩;conv=>whnf)
      refine⟨by show En.v (.int .i64 (IntKind.i64.wrap (i+1)))=_;rw[wrap_id (by omega) (by omega)];rfl,?_⟩
      conv=>whnf
      repeat (refine⟨rfl,?_⟩;conv=>whnf)
      exact trivial
    · conv=>whnf
      have hi:i=n:=by simp at hg;omega
      subst hi
      exact⟨bs,h3.up h2,hF.up h2⟩
theorem c143n (l : List (P4 × Int)) (hn:l.length < 1000000) (H:PH) (v:Value) (hv:NumH H v l) :
    Cl Tryz.prog 194 [v] H emp fun r H' M'=>∃ bs,RowsB H' M' r bs l.length l.length (diagM l l.length)∧ListN H H' r bs l.length l.length:=by
  obtain⟨lb,lc,rfl,_⟩:=id hv
  refine Cl_of (pol:=polL) Γok Tryz.func194 (by kernel_rfl) rfl ?_
  conv=>whnf
  refine (c73n l.length l.length hn hn H).mono fun r H1 M1 hs1 hq=>?_
  obtain⟨bs,base,cap,rfl,hB,hF⟩:=hq
  conv=>whnf
  refine W_loop (pol:=polL) Γok (Nat × PH × PH) (fun i=>i.1≤l.length∧Sub H1 i.2.1∧RowsB H1 i.2.2 (.slice base l.length cap) bs l.length l.length (diagM l i.1)) (fun i=>l.length - i.1) (fun i=>[(13,.v (.int .i64 i.1))]) (fun _=>[]) (fun i=>i.2.1) (fun i=>i.2.2) ⟨(0,H1,M1),⟨by simp,Sub.refl _,hB⟩,rfl,rfl,?_⟩ ?_
  · conv=>whnf
    repeat (refine⟨rfl,?_⟩;conv=>whnf)
    exact trivial
  · rintro ⟨i,H',O⟩ ⟨h1,h2,h3⟩
    dsimp only at h1 h2 h3
    conv=>whnf
    refine if_intro (fun hg=>?_) (fun hg=>?_)
    · have hi:i < l.length:=by simpa using hg
      obtain⟨_,lb0,loff,rfl,hlrd⟩:=((hv.up hs1).up h2).rd (O:=emp) hi
      conv=>whnf
      refine dec_intro (by omega) ?_
      conv=>whnf
      refine⟨_,hlrd.anyO,?_⟩
      conv=>whnf
      intro bx
      conv=>whnf
      refine W_draw (pol:=polL) Γok mixes [(0,.pendO),(1,.pendO),(2,.pendO),(3,.pendO),(4,.pendO),(5,.pendO),(6,.pendO),(7,.lock)] 27 (by kernel_rfl) rfl ?_
      obtain⟨b0,off,b,r,rfl,hb,hr,hl,hO,hrd⟩:=(h3.up h2).row hi
      conv=>whnf
      refine dec_intro (by omega) ?_
      conv=>whnf
      refine⟨_,hrd _,?_⟩
      conv=>whnf
      refine dec_intro (by omega) ?_
      conv=>whnf
      refine⟨_,_,hO,?_,?_⟩
      · show _≤(cellsN r).length
        rw[cellsN_length,hl]
        simp only[Int.toNat_natCast,List.length_cons,List.length_nil]
        omega
      conv=>whnf
      refine⟨(i+1,H',_),⟨hi,h2,h3.set hb hr hi (l.getD i (P4.zero,0))⟩,by dsimp only;omega,?_⟩
      have hg:l.getD i (P4.zero,0)=l[i]:=by simp[List.getD_eq_getElem?_getD,hi]
      rw[hg]
      conv=>whnf
      refine⟨rfl,rfl,?_⟩
      conv=>whnf
      repeat (refine⟨rfl,?_⟩;conv=>whnf)
      refine⟨by show En.v (.int .i64 (IntKind.i64.wrap (i+1)))=_;rw[wrap_id (by omega) (by omega)];rfl,?_⟩
      conv=>whnf
      repeat (refine⟨rfl,?_⟩;conv=>whnf)
      exact trivial
    · conv=>whnf
      have hi:i=l.length:=by simp at hg;omega
      subst hi
      exact⟨bs,h3.up h2,hF.up h2⟩
theorem c20n (n : Nat) (hn:n≤6) (H:PH):Cl Tryz.prog 42 [.int .i64 n] H emp fun r H' M'=>∃ u bs,r=.tuple #[u,.int .i64 0]∧RowsB H' M' u bs (2 ^ n) (2 ^ n) (idM (2 ^ n) (2 ^ n))∧ListN H H' u bs (2 ^ n) (2 ^ n):=by
  have p2:2 ^ n < 1000000:=by
    have:2 ^ n≤2 ^ 6:=Nat.pow_le_pow_right (by decide) hn
    omega
  have key:∀ s:Nat,s=2 ^ n→(s:Int)=2 ^ n:=fun s h=>by rw[h];simp
  refine Cl_of (pol:=polL) Γok Tryz.func42 (by kernel_rfl) rfl ?_
  conv=>whnf
  refine if_intro (fun h=>?_) (fun h=>?_)
  · simp at h
    omega
  conv=>whnf
  refine W_draw (pol:=polL) Γok mixes [(0,.pendO),(1,.pendO),(2,.pendO),(3,.pendO),(4,.lock),(5,.pendO)] 31 (by kernel_rfl) rfl ?_
  conv=>whnf
  rw[shl1 (by omega)]
  obtain⟨s,hs⟩:∃ s,s=2 ^ n:=⟨_,rfl⟩
  rw[← hs] at p2 ⊢
  refine (c73n s s p2 p2 H).mono fun r H1 M1 hs1 hq=>?_
  obtain⟨bs,base,cap,rfl,hB,hF⟩:=hq
  conv=>whnf
  refine W_loop (pol:=polL) Γok (Nat × PH × PH) (fun i=>i.1≤s∧Sub H1 i.2.1∧RowsB H1 i.2.2 (.slice base s cap) bs s s (idM s i.1)) (fun i=>s - i.1) (fun i=>[(19,.v (.int .i64 i.1))]) (fun _=>[]) (fun i=>i.2.1) (fun i=>i.2.2) ⟨(0,H1,M1),⟨by simp,Sub.refl _,hB⟩,rfl,rfl,?_⟩ ?_
  · conv=>whnf
    repeat (refine⟨rfl,?_⟩;conv=>whnf)
    exact trivial
  · rintro ⟨i,H',O⟩ ⟨h1,h2,h3⟩
    dsimp only at h1 h2 h3
    conv=>whnf
    refine if_intro (fun hg=>?_) (fun hg=>?_)
    · have hi:i < s:=by simpa using hg
      conv=>whnf
      refine W_draw (pol:=polL) Γok mixes [(0,.pend),(1,.pend),(2,.pend),(3,.pend),(4,.pend),(5,.lock),(6,.pendO),(7,.lock)] 31 (by kernel_rfl) rfl ?_
      obtain⟨b0,off,b,r,rfl,hb,hr,hl,hO,hrd⟩:=(h3.up h2).row hi
      conv=>whnf
      refine dec_intro (by omega) ?_
      conv=>whnf
      refine⟨_,hrd _,?_⟩
      conv=>whnf
      refine (c74 _).val fun H3 hs3=>?_
      conv=>whnf
      refine dec_intro (by omega) ?_
      conv=>whnf
      refine⟨_,_,hO,?_,?_⟩
      · show _≤(cellsN r).length
        rw[cellsN_length,hl]
        simp only[Int.toNat_natCast,List.length_cons,List.length_nil]
        omega
      conv=>whnf
      refine⟨(i+1,H3,_),⟨hi,h2.trans hs3,h3.set hb hr hi oneN⟩,by dsimp only;omega,?_⟩
      conv=>whnf
      refine⟨rfl,rfl,?_⟩
      conv=>whnf
      repeat (refine⟨rfl,?_⟩;conv=>whnf)
      refine⟨by show En.v (.int .i64 (IntKind.i64.wrap (i+1)))=_;rw[wrap_id (by omega) (by omega)];rfl,?_⟩
      conv=>whnf
      repeat (refine⟨rfl,?_⟩;conv=>whnf)
      exact trivial
    · conv=>whnf
      have hi:i=s:=by simp at hg;omega
      subst hi
      exact⟨_,bs,rfl,h3.up h2,hF.up h2⟩
theorem c133m (t : Nat→Nat) (n:Nat) (hn:n < 1000000) (ht:∀ k,k < n→t k < n) (H:PH) (fn:Fn) (first cp:Array Value) (hf:∀ k,k < n→Does Tryz.prog H (.func fn first cp) [.int .i64 k] fun r _=>r=.int .i64 (t k)) :
    Cl Tryz.prog 192 [.int .i64 n,.func fn first cp] H emp fun r H' _=>MatN H H' r (movedM t n n):=
  (c133n t n hn ht H fn first cp hf).repart fun _ _ _ hs hd ⟨_,h,k⟩=>⟨_,_,.all hd,h.new hs hd hn hn k⟩
theorem c143m (l : List (P4 × Int)) (hn:l.length < 1000000) (H:PH) (v:Value) (hv:NumH H v l) :
    Cl Tryz.prog 194 [v] H emp fun r H' _=>MatN H H' r (diagM l l.length):=
  (c143n l hn H v hv).repart fun _ _ _ hs hd ⟨_,h,k⟩=>⟨_,_,.all hd,h.new hs hd hn hn k⟩
theorem OwnM.sub {M M' : PH} {v:Value} {h w:Nat} {m:Mx} (hm:OwnM M v h w m) (hs:∀ n o,M n=some o→M' n=some o):OwnM M' v h w m:=hm.up hs
theorem Cl.mine {f : FuncId} {args:List Value} {H:PH} {m:Mx} {Q:Value→Value→Prop} (h:Cl Tryz.prog f args H emp fun r H' _=>∃ u,Q r u∧MatN H H' u m):Cl Tryz.prog f args H emp fun r _ M'=>∃ u,Q r u∧OwnQ M' u m:=
  (Cl.own h).mono fun r H2 M2 _ hq=>by
    obtain⟨rfl,H',M',⟨u,q,a,b,h1,h2,h3⟩,_,_,_,h7⟩:=hq
    refine⟨u,q,.inr ⟨a,b,h1,h2,h3.up fun n o hn=>?_⟩⟩
    unfold newH at hn
    cases e:H2 n with
    | some _=>rw[e] at hn;cases hn
    | none=>rw[e] at hn;exact h7 n o e hn
theorem c20m (n : Nat) (hn:n≤6) (H:PH):Cl Tryz.prog 42 [.int .i64 n] H emp fun r _ M'=>∃ u,r=.tuple #[u,.int .i64 0]∧OwnQ M' u (idM (2 ^ n) (2 ^ n)):=by
  have p2:2 ^ n < 1000000:=by
    have:2 ^ n≤2 ^ 6:=Nat.pow_le_pow_right (by decide) hn
    omega
  exact Cl.mine (Q:=fun r u=>r=.tuple #[u,.int .i64 0]) ((c20n n hn H).repart fun _ _ _ hs hd ⟨u,_,h1,h,k⟩=>⟨_,_,.all hd,u,h1,h.new hs hd p2 p2 k⟩)
end Go.Proofs.YtgbhgfdgifkdhaaGreat

namespace Go.Proofs.YtgbhgfdgifkdhaaGreat
open Go.Proofs.YtgbhgfdgifkdhaaGreat.X Go.Proofs.YtgbhgfdgifkdhaaGreat.X.PH
set_option maxRecDepth 100000
theorem newH_sub (H0 H : PH):Sub (newH H0 H) H:=fun n o hn=>by
  unfold newH at hn
  cases e:H0 n with
  | some _=>rw[e] at hn;cases hn
  | none=>rw[e] at hn;exact hn
theorem MatN.mat {H0 H : PH} {v:Value} {m:Mx} (h:MatN H0 H v m):MatH H v m:=by
  obtain⟨a,b,h1,h2,h3⟩:=h
  have:=OwnM.share (H:=emp) (fun n=>.inl rfl) h3
  exact this.up fun n o hn=>by
    have:newH H0 H n=some o:=by simpa[un,emp] using hn
    exact newH_sub _ _ n o this
def NumN (H0 H : PH) (v:Value) (l:List (P4 × Int)):Prop:=∃ b,v=.slice (some ⟨b,0,none⟩) l.length l.length∧H0 b=none∧H b=some (.cells ⟨cellsN l⟩ 33 (0,0))
theorem NumN.up {H0 H H' : PH} {v:Value} {l:List (P4 × Int)} (k:NumN H0 H v l) (hs:Sub H H'):NumN H0 H' v l:=by
  obtain⟨b0,h1,h2,h3⟩:=k
  exact⟨b0,h1,h2,hs _ _ h3⟩
theorem fresh_of {H0 H : PH} (hS:Sub H0 H) {b:Nat} (hb:H b=none):H0 b=none:=by
  cases e:H0 b with
  | none=>rfl
  | some o=>rw[hS _ _ e] at hb;cases hb
theorem numN_new {H0 H : PH} (hS:Sub H0 H) {b:Nat} (hb:H b=none) {l:List (P4 × Int)} {c:List Value} (hc:c=cellsN l) {n:Nat} (hn:n=l.length):NumN H0 (ins H b (.cells ⟨c⟩ 33 (0,0))) (.slice (some ⟨b,0,none⟩) n n) l:=by
  subst hc hn
  exact⟨b,rfl,fresh_of hS hb,ins_same _ _ _⟩
theorem mat2N {H0 H : PH} (hS:Sub H0 H) {b:Nat} (hb:H b=none) {u1 u2:Value} {r1 r2:List (P4 × Int)} (h1:NumN H0 H u1 r1) (h2:NumN H0 H u2 r2) (l1:r1.length=2) (l2:r2.length=2) (hne:cellsN r1 ≠ cellsN r2) :
    MatN H0 (ins H b (.cells ⟨[u1,u2]⟩ 31 (0,0))) (.slice (some ⟨b,0,none⟩) 2 2) [r1,r2]:=by
  obtain⟨b1,rfl,f1,k1⟩:=h1
  obtain⟨b2,rfl,f2,k2⟩:=h2
  have n12:b1 ≠ b2:=fun e=>by
    subst e
    rw[k1] at k2
    injection k2 with k2
    injection k2 with k2
    injection k2 with k2
    exact hne k2
  have n1:b1 ≠ b:=fun e=>by subst e;rw[hb] at k1;cases k1
  have n2:b2 ≠ b:=fun e=>by subst e;rw[hb] at k2;cases k2
  rw[l1,l2]
  refine⟨2,2,by decide,by decide,rfl,fun i r hr=>?_,[b1,b2],b,⟨rfl,by simp[n12],fun i c r hc hr=>?_⟩,by simp[n1.symm,n2.symm],rfl,newH_some (fresh_of hS hb) (ins_same _ _ _)⟩
  · match i,hr with
    | 0,hr=>cases hr;exact l1
    | 1,hr=>cases hr;exact l2
  · match i,hc,hr with
    | 0,hc,hr=>cases hc;cases hr;exact newH_some f1 ((ins_ne _ _ n1).trans k1)
    | 1,hc,hr=>cases hc;cases hr;exact newH_some f2 ((ins_ne _ _ n2).trans k2)
def vInts (l : List Value):List Int:=l.map fun
  | .int _ n=>n
  | _=>0
def Sp.holdsN (H0 H : PH) (v:Value):Sp→Prop
  | .skip=>True
  | .val _=>True
  | .nums l=>NumN H0 H v l
  | .mat m=>MatN H0 H v m
theorem Sp.upN {H0 H H' : PH} {v:Value} {s:Sp} (hs:Sub H H') (h:s.holdsN H0 H v):s.holdsN H0 H' v:=by
  cases s with
  | skip=>exact trivial
  | val x=>exact trivial
  | nums l=>exact NumN.up h hs
  | mat m=>exact MatN.up h hs
def IOn (H0 : PH) (L:Nat→Bool) (V:Nat→Value) (H O:PH):Prop:=IO L V H O∧Sub H0 H∧∀ (i:Nat) s,spO[i]?=some s→L i=true→s.holdsN H0 H (V i)
theorem holdsN_set {H0 : PH} {L:Nat→Bool} {V:Nat→Value} {H H2:PH} {i:Nat} {v:Value} {s:Sp} (hI:∀ (i:Nat) s,spO[i]?=some s→L i=true→s.holdsN H0 H (V i)) (hs:Sub H H2) (hsp:spO[i]?=some s) (hv:s.holdsN H0 H2 v) :
    ∀ (j:Nat) s,spO[j]?=some s→setL L i j=true→s.holdsN H0 H2 (setV V i v j):=by
  intro j s' hj hL
  by_cases e:j=i
  · subst e
    rw[hsp] at hj
    cases hj
    rw[setV_same]
    exact hv
  · rw[setL_ne L e] at hL
    rw[setV_ne V v e]
    exact Sp.upN hs (hI j s' hj hL)
theorem IOn_step {H0 : PH} {L:Nat→Bool} {V:Nat→Value} {H O H2:PH} {i:Nat} {v:Value} {s:Sp} (hI:IOn H0 L V H O) (hLi:L i=false) (hs:Sub H H2) (hsp:spO[i]?=some s) (hv:s.holds H2 v) (hvn:s.holdsN H0 H2 v)
    (hn:i ≠ 0∧i ≠ 65∧i ≠ 66∧∀ x∈tabO,x.2.1 ≠ i):IOn H0 (setL L i) (setV V i v) H2 O:=
  ⟨IO_step hI.1 hLi hs hsp hv hn,hI.2.1.trans hs,holdsN_set hI.2.2 hs hsp hvn⟩
theorem IOn_map {H0 : PH} {L:Nat→Bool} {V:Nat→Value} {H O:PH} {b:Nat} (hI:IOn H0 L V H O) (hL:L 0=false):IOn H0 (setL L 0) (setV V 0 (.map (some b))) H (ins O b (.map #[] 0)):=
  ⟨IO_map hI.1 hL,hI.2.1,holdsN_set hI.2.2 (Sub.refl _) (s:=.skip) rfl trivial⟩
theorem skipO : ∀ y∈tabO,spO[y.2.1]?=some .skip:=by
  intro y hy
  simp only[tabO,List.mem_cons,List.not_mem_nil,or_false] at hy
  rcases hy with rfl | rfl | rfl | rfl | rfl | rfl | rfl | rfl | rfl | rfl | rfl | rfl
  all_goals rfl
theorem IOn_ins {H0 : PH} {L:Nat→Bool} {V:Nat→Value} {H O:PH} {x:Nat × Nat × Nat} (hx:x∈tabO) {b:Nat} {es:List MapEntry} {clk:Nat} (hI:IOn H0 L V H O) (hL:L x.2.1=false) (hsrc:L x.2.2=true) (h0:L 0=true)
    (hV0:V 0=.map (some b)) (hO:O b=some (.map ⟨es⟩ clk)) {u:Value} (hu:V x.2.2=u):IOn H0 (setL L x.2.1) (setV V x.2.1 undef) H (ins O b (.map ((⟨es⟩:Array MapEntry).push { key:=.int .i64 x.1,val:=u,born:=clk }) (clk+1))):=
  ⟨IO_ins hx hI.1 hL hsrc h0 hV0 hO hu,hI.2.1,holdsN_set hI.2.2 (Sub.refl _) (s:=.skip) (skipO x hx) trivial⟩
theorem IOn_same {H0 : PH} {L:Nat→Bool} {V:Nat→Value} {H O:PH} {i:Nat} {v:Value} (hI:IOn H0 L V H O) (hLi:L i=false) (h0:L 0=true) (hi:i=65∨i=66) (hv:∀ b,V 0=.map (some b)→v=.map (some b)):IOn H0 (setL L i) (setV V i v) H O:=
  ⟨IO_same hI.1 hLi h0 hi hv,hI.2.1,holdsN_set hI.2.2 (Sub.refl _) (s:=.skip) (by rcases hi with rfl | rfl<;>rfl) trivial⟩
def OpsN (H0 H : PH) (r:Value):Prop:=∃ b es clk,r=.map (some b)∧H b=some (.map ⟨es⟩ clk)∧(∀ k,1≤k→k≤12→∃ j u,Instr.findNow (.int .i64) (.int .i64 (k:Nat)) es 0=some (some (j,u))∧MatN H0 H u (opM k))∧∀ n:Int,n < 1∨12 < n→Instr.findNow (.int .i64) (.int .i64 n) es 0=some none
theorem c75n (H : PH):Cl Tryz.prog 107 [] H emp fun r H' _=>OpsN H H' r:=by
  refine Cl.repart (Q:=fun r H' M'=>∃ b es clk,r=.map (some b)∧M' b=some (.map ⟨es⟩ clk)∧(∀ k,1≤k→k≤12→∃ j u,Instr.findNow (.int .i64) (.int .i64 (k:Nat)) es 0=some (some (j,u))∧MatN H H' u (opM k))∧∀ n:Int,n < 1∨12 < n→Instr.findNow (.int .i64) (.int .i64 n) es 0=some none) ?_ fun r H' M' _ hd ⟨b,es,clk,h1,h2,h3,h4⟩=>⟨_,_,.one hd h2,b,es,clk,h1,ins_same _ _ _,fun k k1 k2=>by
    obtain⟨j,u,h5,h6⟩:=h3 k k1 k2
    exact⟨j,u,h5,h6.up (sub_ins _ _ ((hd b).resolve_right (by rw[h2];simp)))⟩,h4⟩
  refine Cl_of (pol:=polO) Γok Tryz.func107 (by kernel_rfl) rfl ?_
  conv=>whnf
  refine (c140 1 _).val fun H1 s1=>?_
  conv=>whnf
  intro b2
  conv=>whnf
  refine (c141 rootN _).val fun H2 s2=>?_
  conv=>whnf
  intro b4
  conv=>whnf
  refine W_free (pol:=polO) Γok mixes 69 (by kernel_rfl) rfl (IOn H) ⟨⟨fun i s _ h=>(by cases h),fun x _ h=>(by cases h),fun h=>(by cases h),fun _=>⟨fun _ _=>rfl,rfl,rfl⟩⟩,s1.trans s2,fun i s _ h=>(by cases h)⟩ ?_ ?_
  · intro i o ho L V H' O' hI hLi hsee
    have hi:i < 67:=(List.getElem?_eq_some_iff.1 ho).1
    have get:∀ (j:Nat) s,spO[j]?=some s→seesB _ o j=true→s.holds H' (V j):=fun j s hj h=>hI.1.1 j s hj (hsee j h)
    obtain rfl | rfl | rfl | rfl | rfl | rfl | rfl | rfl | rfl | rfl | rfl | rfl | rfl | rfl | rfl | rfl | rfl | rfl | rfl | rfl | rfl | rfl | rfl | rfl | rfl | rfl | rfl | rfl | rfl | rfl | rfl | rfl | rfl | rfl | rfl | rfl | rfl | rfl | rfl | rfl | rfl | rfl | rfl | rfl | rfl | rfl | rfl | rfl | rfl | rfl | rfl | rfl | rfl | rfl | rfl | rfl | rfl | rfl | rfl | rfl | rfl | rfl | rfl | rfl | rfl | rfl | rfl:i=0∨i=1∨i=2∨i=3∨i=4∨i=5∨i=6∨i=7∨i=8∨i=9∨i=10∨i=11∨i=12∨i=13∨i=14∨i=15∨i=16∨i=17∨i=18∨i=19∨i=20∨i=21∨i=22∨i=23∨i=24∨i=25∨i=26∨i=27∨i=28∨i=29∨i=30∨i=31∨i=32∨i=33∨i=34∨i=35∨i=36∨i=37∨i=38∨i=39∨i=40∨i=41∨i=42∨i=43∨i=44∨i=45∨i=46∨i=47∨i=48∨i=49∨i=50∨i=51∨i=52∨i=53∨i=54∨i=55∨i=56∨i=57∨i=58∨i=59∨i=60∨i=61∨i=62∨i=63∨i=64∨i=65∨i=66:=by omega
    ·
      cases ho
      conv=>whnf
      intro b hb hO
      exact⟨⟨_,rfl⟩,_,rfl,IOn_map hI hLi⟩
    ·
      cases ho
      conv=>whnf
      refine (c133m tX 2 (by decide) (by decide) _ (.func 193) #[] #[] (fun k hk=>⟨193,[],[],rfl,fun H4 _=>c142b k hk H4⟩)).use fun u H3 s3 hq=>?_
      obtain⟨_,hq⟩:=hq
      conv=>whnf
      exact⟨⟨_,rfl⟩,_,rfl,IOn_step hI hLi s3 rfl hq.mat (hq.base hI.2.1) (by decide)⟩
    ·
      cases ho
      have h0:=hsee 0 (by kernel_rfl)
      have hs:=hsee 1 (by kernel_rfl)
      obtain⟨b,es,clk,hV0,hO,hF,_⟩:=hI.1.2.2.1 h0
      conv=>whnf
      unfold enterK
      refine .inl ?_
      refine⟨.i64,1,b,⟨es⟩,clk,rfl,hV0,hO,(hF 1 0).1 (keyVal_none (x:=(1,2,1)) (by decide) hLi),?_⟩
      conv=>whnf
      exact⟨⟨_,rfl⟩,_,rfl,IOn_ins (x:=(1,2,1)) (by decide) hI hLi hs h0 hV0 hO rfl⟩
    ·
      cases ho
      conv=>whnf
      exact⟨⟨_,rfl⟩,_,rfl,IOn_step hI hLi (Sub.refl _) rfl rfl trivial (by decide)⟩
    ·
      cases ho
      conv=>whnf
      exact⟨⟨_,rfl⟩,_,rfl,IOn_step hI hLi (Sub.refl _) rfl rfl trivial (by decide)⟩
    ·
      cases ho
      have h:=get 4 _ rfl (by kernel_rfl)
      change V 4=_ at h
      conv=>whnf
      rw[h]
      conv=>whnf
      refine (c54 6 _).val fun H3 s3=>?_
      conv=>whnf
      exact⟨⟨_,rfl⟩,_,rfl,IOn_step hI hLi s3 rfl rfl trivial (by decide)⟩
    ·
      cases ho
      conv=>whnf
      have h3:=get 3 _ rfl (by kernel_rfl)
      change V 3=_ at h3
      have h5:=get 5 _ rfl (by kernel_rfl)
      change V 5=_ at h5
      rw[h3]
      conv=>whnf
      rw[h5]
      conv=>whnf
      intro b hb hO
      conv=>whnf
      exact⟨⟨_,rfl⟩,_,rfl,IOn_step hI hLi (sub_ins _ _ hb) rfl (pair_num (ins_same _ _ _)) (numN_new hI.2.1 hb rfl rfl) (by decide)⟩
    ·
      cases ho
      conv=>whnf
      exact⟨⟨_,rfl⟩,_,rfl,IOn_step hI hLi (Sub.refl _) rfl rfl trivial (by decide)⟩
    ·
      cases ho
      have h:=get 7 _ rfl (by kernel_rfl)
      change V 7=_ at h
      conv=>whnf
      rw[h]
      conv=>whnf
      refine (c54 2 _).val fun H3 s3=>?_
      conv=>whnf
      exact⟨⟨_,rfl⟩,_,rfl,IOn_step hI hLi s3 rfl rfl trivial (by decide)⟩
    ·
      cases ho
      conv=>whnf
      exact⟨⟨_,rfl⟩,_,rfl,IOn_step hI hLi (Sub.refl _) rfl rfl trivial (by decide)⟩
    ·
      cases ho
      conv=>whnf
      have h8:=get 8 _ rfl (by kernel_rfl)
      change V 8=_ at h8
      have h9:=get 9 _ rfl (by kernel_rfl)
      change V 9=_ at h9
      rw[h8]
      conv=>whnf
      rw[h9]
      conv=>whnf
      intro b hb hO
      conv=>whnf
      exact⟨⟨_,rfl⟩,_,rfl,IOn_step hI hLi (sub_ins _ _ hb) rfl (pair_num (ins_same _ _ _)) (numN_new hI.2.1 hb rfl rfl) (by decide)⟩
    ·
      cases ho
      have h6:=get 6 _ rfl (by kernel_rfl)
      change NumH _ (V 6) _ at h6
      obtain⟨base6,cap6,e6,_⟩:=id h6
      have h10:=get 10 _ rfl (by kernel_rfl)
      change NumH _ (V 10) _ at h10
      obtain⟨base10,cap10,e10,_⟩:=id h10
      conv=>whnf
      rw[e6]
      conv=>whnf
      rw[e10]
      conv=>whnf
      intro b hb hO
      conv=>whnf
      have f6:=h6
      rw[e6] at f6
      have f10:=h10
      rw[e10] at f10
      refine⟨⟨_,rfl⟩,_,rfl,IOn_step hI hLi (sub_ins _ _ hb) rfl (mat2 (ins_same _ _ _) ?_ ?_) ?_ (by decide)⟩
      · exact f6.up (sub_ins _ _ hb)
      · exact f10.up (sub_ins _ _ hb)
      · have g6:=hI.2.2 6 _ rfl (hsee 6 (by kernel_rfl))
        change NumN _ _ (V 6) _ at g6
        rw[e6] at g6
        have g10:=hI.2.2 10 _ rfl (hsee 10 (by kernel_rfl))
        change NumN _ _ (V 10) _ at g10
        rw[e10] at g10
        exact mat2N hI.2.1 hb g6 g10 rfl rfl fun e=>absurd (congrArg vInts e) (by decide +kernel)
    ·
      cases ho
      have h0:=hsee 0 (by kernel_rfl)
      have hs:=hsee 11 (by kernel_rfl)
      obtain⟨b,es,clk,hV0,hO,hF,_⟩:=hI.1.2.2.1 h0
      conv=>whnf
      unfold enterK
      refine .inl ?_
      refine⟨.i64,2,b,⟨es⟩,clk,rfl,hV0,hO,(hF 2 0).1 (keyVal_none (x:=(2,12,11)) (by decide) hLi),?_⟩
      conv=>whnf
      exact⟨⟨_,rfl⟩,_,rfl,IOn_ins (x:=(2,12,11)) (by decide) hI hLi hs h0 hV0 hO rfl⟩
    ·
      cases ho
      conv=>whnf
      refine (c74 _).val fun H3 s3=>?_
      conv=>whnf
      exact⟨⟨_,rfl⟩,_,rfl,IOn_step hI hLi s3 rfl rfl trivial (by decide)⟩
    ·
      cases ho
      conv=>whnf
      exact⟨⟨_,rfl⟩,_,rfl,IOn_step hI hLi (Sub.refl _) rfl rfl trivial (by decide)⟩
    ·
      cases ho
      have h:=get 14 _ rfl (by kernel_rfl)
      change V 14=_ at h
      conv=>whnf
      rw[h]
      conv=>whnf
      refine (c54 4 _).val fun H3 s3=>?_
      conv=>whnf
      exact⟨⟨_,rfl⟩,_,rfl,IOn_step hI hLi s3 rfl rfl trivial (by decide)⟩
    ·
      cases ho
      conv=>whnf
      have h13:=get 13 _ rfl (by kernel_rfl)
      change V 13=_ at h13
      have h15:=get 15 _ rfl (by kernel_rfl)
      change V 15=_ at h15
      rw[h13]
      conv=>whnf
      rw[h15]
      conv=>whnf
      intro b hb hO
      conv=>whnf
      exact⟨⟨_,rfl⟩,_,rfl,IOn_step hI hLi (sub_ins _ _ hb) rfl (pair_num (ins_same _ _ _)) (numN_new hI.2.1 hb rfl rfl) (by decide)⟩
    ·
      cases ho
      have h:=get 16 _ rfl (by kernel_rfl)
      conv=>whnf
      refine (c143m _ (by decide) _ _ h).use fun u H3 s3 hq=>?_
      obtain⟨_,hq⟩:=hq
      conv=>whnf
      exact⟨⟨_,rfl⟩,_,rfl,IOn_step hI hLi s3 rfl hq.mat (hq.base hI.2.1) (by decide)⟩
    ·
      cases ho
      have h0:=hsee 0 (by kernel_rfl)
      have hs:=hsee 17 (by kernel_rfl)
      obtain⟨b,es,clk,hV0,hO,hF,_⟩:=hI.1.2.2.1 h0
      conv=>whnf
      unfold enterK
      refine .inl ?_
      refine⟨.i64,3,b,⟨es⟩,clk,rfl,hV0,hO,(hF 3 0).1 (keyVal_none (x:=(3,18,17)) (by decide) hLi),?_⟩
      conv=>whnf
      exact⟨⟨_,rfl⟩,_,rfl,IOn_ins (x:=(3,18,17)) (by decide) hI hLi hs h0 hV0 hO rfl⟩
    ·
      cases ho
      conv=>whnf
      exact⟨⟨_,rfl⟩,_,rfl,IOn_step hI hLi (Sub.refl _) rfl rfl trivial (by decide)⟩
    ·
      cases ho
      conv=>whnf
      exact⟨⟨_,rfl⟩,_,rfl,IOn_step hI hLi (Sub.refl _) rfl rfl trivial (by decide)⟩
    ·
      cases ho
      conv=>whnf
      have h19:=get 19 _ rfl (by kernel_rfl)
      change V 19=_ at h19
      have h20:=get 20 _ rfl (by kernel_rfl)
      change V 20=_ at h20
      rw[h19]
      conv=>whnf
      rw[h20]
      conv=>whnf
      intro b hb hO
      conv=>whnf
      exact⟨⟨_,rfl⟩,_,rfl,IOn_step hI hLi (sub_ins _ _ hb) rfl (pair_num (ins_same _ _ _)) (numN_new hI.2.1 hb rfl rfl) (by decide)⟩
    ·
      cases ho
      conv=>whnf
      exact⟨⟨_,rfl⟩,_,rfl,IOn_step hI hLi (Sub.refl _) rfl rfl trivial (by decide)⟩
    ·
      cases ho
      conv=>whnf
      exact⟨⟨_,rfl⟩,_,rfl,IOn_step hI hLi (Sub.refl _) rfl rfl trivial (by decide)⟩
    ·
      cases ho
      conv=>whnf
      have h22:=get 22 _ rfl (by kernel_rfl)
      change V 22=_ at h22
      have h23:=get 23 _ rfl (by kernel_rfl)
      change V 23=_ at h23
      rw[h22]
      conv=>whnf
      rw[h23]
      conv=>whnf
      intro b hb hO
      conv=>whnf
      exact⟨⟨_,rfl⟩,_,rfl,IOn_step hI hLi (sub_ins _ _ hb) rfl (pair_num (ins_same _ _ _)) (numN_new hI.2.1 hb rfl rfl) (by decide)⟩
    ·
      cases ho
      have h21:=get 21 _ rfl (by kernel_rfl)
      change NumH _ (V 21) _ at h21
      obtain⟨base21,cap21,e21,_⟩:=id h21
      have h24:=get 24 _ rfl (by kernel_rfl)
      change NumH _ (V 24) _ at h24
      obtain⟨base24,cap24,e24,_⟩:=id h24
      conv=>whnf
      rw[e21]
      conv=>whnf
      rw[e24]
      conv=>whnf
      intro b hb hO
      conv=>whnf
      have f21:=h21
      rw[e21] at f21
      have f24:=h24
      rw[e24] at f24
      refine⟨⟨_,rfl⟩,_,rfl,IOn_step hI hLi (sub_ins _ _ hb) rfl (mat2 (ins_same _ _ _) ?_ ?_) ?_ (by decide)⟩
      · exact f21.up (sub_ins _ _ hb)
      · exact f24.up (sub_ins _ _ hb)
      · have g21:=hI.2.2 21 _ rfl (hsee 21 (by kernel_rfl))
        change NumN _ _ (V 21) _ at g21
        rw[e21] at g21
        have g24:=hI.2.2 24 _ rfl (hsee 24 (by kernel_rfl))
        change NumN _ _ (V 24) _ at g24
        rw[e24] at g24
        exact mat2N hI.2.1 hb g21 g24 rfl rfl fun e=>absurd (congrArg vInts e) (by decide +kernel)
    ·
      cases ho
      have h0:=hsee 0 (by kernel_rfl)
      have hs:=hsee 25 (by kernel_rfl)
      obtain⟨b,es,clk,hV0,hO,hF,_⟩:=hI.1.2.2.1 h0
      conv=>whnf
      unfold enterK
      refine .inl ?_
      refine⟨.i64,4,b,⟨es⟩,clk,rfl,hV0,hO,(hF 4 0).1 (keyVal_none (x:=(4,26,25)) (by decide) hLi),?_⟩
      conv=>whnf
      exact⟨⟨_,rfl⟩,_,rfl,IOn_ins (x:=(4,26,25)) (by decide) hI hLi hs h0 hV0 hO rfl⟩
    ·
      cases ho
      conv=>whnf
      refine (c74 _).val fun H3 s3=>?_
      conv=>whnf
      exact⟨⟨_,rfl⟩,_,rfl,IOn_step hI hLi s3 rfl rfl trivial (by decide)⟩
    ·
      cases ho
      conv=>whnf
      exact⟨⟨_,rfl⟩,_,rfl,IOn_step hI hLi (Sub.refl _) rfl rfl trivial (by decide)⟩
    ·
      cases ho
      have h:=get 28 _ rfl (by kernel_rfl)
      change V 28=_ at h
      conv=>whnf
      rw[h]
      conv=>whnf
      refine (c54 2 _).val fun H3 s3=>?_
      conv=>whnf
      exact⟨⟨_,rfl⟩,_,rfl,IOn_step hI hLi s3 rfl rfl trivial (by decide)⟩
    ·
      cases ho
      conv=>whnf
      have h27:=get 27 _ rfl (by kernel_rfl)
      change V 27=_ at h27
      have h29:=get 29 _ rfl (by kernel_rfl)
      change V 29=_ at h29
      rw[h27]
      conv=>whnf
      rw[h29]
      conv=>whnf
      intro b hb hO
      conv=>whnf
      exact⟨⟨_,rfl⟩,_,rfl,IOn_step hI hLi (sub_ins _ _ hb) rfl (pair_num (ins_same _ _ _)) (numN_new hI.2.1 hb rfl rfl) (by decide)⟩
    ·
      cases ho
      have h:=get 30 _ rfl (by kernel_rfl)
      conv=>whnf
      refine (c143m _ (by decide) _ _ h).use fun u H3 s3 hq=>?_
      obtain⟨_,hq⟩:=hq
      conv=>whnf
      exact⟨⟨_,rfl⟩,_,rfl,IOn_step hI hLi s3 rfl hq.mat (hq.base hI.2.1) (by decide)⟩
    ·
      cases ho
      have h0:=hsee 0 (by kernel_rfl)
      have hs:=hsee 31 (by kernel_rfl)
      obtain⟨b,es,clk,hV0,hO,hF,_⟩:=hI.1.2.2.1 h0
      conv=>whnf
      unfold enterK
      refine .inl ?_
      refine⟨.i64,5,b,⟨es⟩,clk,rfl,hV0,hO,(hF 5 0).1 (keyVal_none (x:=(5,32,31)) (by decide) hLi),?_⟩
      conv=>whnf
      exact⟨⟨_,rfl⟩,_,rfl,IOn_ins (x:=(5,32,31)) (by decide) hI hLi hs h0 hV0 hO rfl⟩
    ·
      cases ho
      conv=>whnf
      refine (c74 _).val fun H3 s3=>?_
      conv=>whnf
      exact⟨⟨_,rfl⟩,_,rfl,IOn_step hI hLi s3 rfl rfl trivial (by decide)⟩
    ·
      cases ho
      conv=>whnf
      exact⟨⟨_,rfl⟩,_,rfl,IOn_step hI hLi (Sub.refl _) rfl rfl trivial (by decide)⟩
    ·
      cases ho
      have h:=get 34 _ rfl (by kernel_rfl)
      change V 34=_ at h
      conv=>whnf
      rw[h]
      conv=>whnf
      refine (c54 6 _).val fun H3 s3=>?_
      conv=>whnf
      exact⟨⟨_,rfl⟩,_,rfl,IOn_step hI hLi s3 rfl rfl trivial (by decide)⟩
    ·
      cases ho
      conv=>whnf
      have h33:=get 33 _ rfl (by kernel_rfl)
      change V 33=_ at h33
      have h35:=get 35 _ rfl (by kernel_rfl)
      change V 35=_ at h35
      rw[h33]
      conv=>whnf
      rw[h35]
      conv=>whnf
      intro b hb hO
      conv=>whnf
      exact⟨⟨_,rfl⟩,_,rfl,IOn_step hI hLi (sub_ins _ _ hb) rfl (pair_num (ins_same _ _ _)) (numN_new hI.2.1 hb rfl rfl) (by decide)⟩
    ·
      cases ho
      have h:=get 36 _ rfl (by kernel_rfl)
      conv=>whnf
      refine (c143m _ (by decide) _ _ h).use fun u H3 s3 hq=>?_
      obtain⟨_,hq⟩:=hq
      conv=>whnf
      exact⟨⟨_,rfl⟩,_,rfl,IOn_step hI hLi s3 rfl hq.mat (hq.base hI.2.1) (by decide)⟩
    ·
      cases ho
      have h0:=hsee 0 (by kernel_rfl)
      have hs:=hsee 37 (by kernel_rfl)
      obtain⟨b,es,clk,hV0,hO,hF,_⟩:=hI.1.2.2.1 h0
      conv=>whnf
      unfold enterK
      refine .inl ?_
      refine⟨.i64,6,b,⟨es⟩,clk,rfl,hV0,hO,(hF 6 0).1 (keyVal_none (x:=(6,38,37)) (by decide) hLi),?_⟩
      conv=>whnf
      exact⟨⟨_,rfl⟩,_,rfl,IOn_ins (x:=(6,38,37)) (by decide) hI hLi hs h0 hV0 hO rfl⟩
    ·
      cases ho
      conv=>whnf
      refine (c74 _).val fun H3 s3=>?_
      conv=>whnf
      exact⟨⟨_,rfl⟩,_,rfl,IOn_step hI hLi s3 rfl rfl trivial (by decide)⟩
    ·
      cases ho
      conv=>whnf
      exact⟨⟨_,rfl⟩,_,rfl,IOn_step hI hLi (Sub.refl _) rfl rfl trivial (by decide)⟩
    ·
      cases ho
      have h:=get 40 _ rfl (by kernel_rfl)
      change V 40=_ at h
      conv=>whnf
      rw[h]
      conv=>whnf
      refine (c54 1 _).val fun H3 s3=>?_
      conv=>whnf
      exact⟨⟨_,rfl⟩,_,rfl,IOn_step hI hLi s3 rfl rfl trivial (by decide)⟩
    ·
      cases ho
      conv=>whnf
      have h39:=get 39 _ rfl (by kernel_rfl)
      change V 39=_ at h39
      have h41:=get 41 _ rfl (by kernel_rfl)
      change V 41=_ at h41
      rw[h39]
      conv=>whnf
      rw[h41]
      conv=>whnf
      intro b hb hO
      conv=>whnf
      exact⟨⟨_,rfl⟩,_,rfl,IOn_step hI hLi (sub_ins _ _ hb) rfl (pair_num (ins_same _ _ _)) (numN_new hI.2.1 hb rfl rfl) (by decide)⟩
    ·
      cases ho
      have h:=get 42 _ rfl (by kernel_rfl)
      conv=>whnf
      refine (c143m _ (by decide) _ _ h).use fun u H3 s3 hq=>?_
      obtain⟨_,hq⟩:=hq
      conv=>whnf
      exact⟨⟨_,rfl⟩,_,rfl,IOn_step hI hLi s3 rfl hq.mat (hq.base hI.2.1) (by decide)⟩
    ·
      cases ho
      have h0:=hsee 0 (by kernel_rfl)
      have hs:=hsee 43 (by kernel_rfl)
      obtain⟨b,es,clk,hV0,hO,hF,_⟩:=hI.1.2.2.1 h0
      conv=>whnf
      unfold enterK
      refine .inl ?_
      refine⟨.i64,7,b,⟨es⟩,clk,rfl,hV0,hO,(hF 7 0).1 (keyVal_none (x:=(7,44,43)) (by decide) hLi),?_⟩
      conv=>whnf
      exact⟨⟨_,rfl⟩,_,rfl,IOn_ins (x:=(7,44,43)) (by decide) hI hLi hs h0 hV0 hO rfl⟩
    ·
      cases ho
      conv=>whnf
      refine (c74 _).val fun H3 s3=>?_
      conv=>whnf
      exact⟨⟨_,rfl⟩,_,rfl,IOn_step hI hLi s3 rfl rfl trivial (by decide)⟩
    ·
      cases ho
      conv=>whnf
      exact⟨⟨_,rfl⟩,_,rfl,IOn_step hI hLi (Sub.refl _) rfl rfl trivial (by decide)⟩
    ·
      cases ho
      have h:=get 46 _ rfl (by kernel_rfl)
      change V 46=_ at h
      conv=>whnf
      rw[h]
      conv=>whnf
      refine (c54 7 _).val fun H3 s3=>?_
      conv=>whnf
      exact⟨⟨_,rfl⟩,_,rfl,IOn_step hI hLi s3 rfl rfl trivial (by decide)⟩
    ·
      cases ho
      conv=>whnf
      have h45:=get 45 _ rfl (by kernel_rfl)
      change V 45=_ at h45
      have h47:=get 47 _ rfl (by kernel_rfl)
      change V 47=_ at h47
      rw[h45]
      conv=>whnf
      rw[h47]
      conv=>whnf
      intro b hb hO
      conv=>whnf
      exact⟨⟨_,rfl⟩,_,rfl,IOn_step hI hLi (sub_ins _ _ hb) rfl (pair_num (ins_same _ _ _)) (numN_new hI.2.1 hb rfl rfl) (by decide)⟩
    ·
      cases ho
      have h:=get 48 _ rfl (by kernel_rfl)
      conv=>whnf
      refine (c143m _ (by decide) _ _ h).use fun u H3 s3 hq=>?_
      obtain⟨_,hq⟩:=hq
      conv=>whnf
      exact⟨⟨_,rfl⟩,_,rfl,IOn_step hI hLi s3 rfl hq.mat (hq.base hI.2.1) (by decide)⟩
    ·
      cases ho
      have h0:=hsee 0 (by kernel_rfl)
      have hs:=hsee 49 (by kernel_rfl)
      obtain⟨b,es,clk,hV0,hO,hF,_⟩:=hI.1.2.2.1 h0
      conv=>whnf
      unfold enterK
      refine .inl ?_
      refine⟨.i64,8,b,⟨es⟩,clk,rfl,hV0,hO,(hF 8 0).1 (keyVal_none (x:=(8,50,49)) (by decide) hLi),?_⟩
      conv=>whnf
      exact⟨⟨_,rfl⟩,_,rfl,IOn_ins (x:=(8,50,49)) (by decide) hI hLi hs h0 hV0 hO rfl⟩
    ·
      cases ho
      conv=>whnf
      refine (c133m tCX 4 (by decide) (by decide) _ (.func 195) #[] #[] (fun k hk=>⟨195,[],[],rfl,fun H4 _=>c144 k hk H4⟩)).use fun u H3 s3 hq=>?_
      obtain⟨_,hq⟩:=hq
      conv=>whnf
      exact⟨⟨_,rfl⟩,_,rfl,IOn_step hI hLi s3 rfl hq.mat (hq.base hI.2.1) (by decide)⟩
    ·
      cases ho
      have h0:=hsee 0 (by kernel_rfl)
      have hs:=hsee 51 (by kernel_rfl)
      obtain⟨b,es,clk,hV0,hO,hF,_⟩:=hI.1.2.2.1 h0
      conv=>whnf
      unfold enterK
      refine .inl ?_
      refine⟨.i64,9,b,⟨es⟩,clk,rfl,hV0,hO,(hF 9 0).1 (keyVal_none (x:=(9,52,51)) (by decide) hLi),?_⟩
      conv=>whnf
      exact⟨⟨_,rfl⟩,_,rfl,IOn_ins (x:=(9,52,51)) (by decide) hI hLi hs h0 hV0 hO rfl⟩
    ·
      cases ho
      conv=>whnf
      refine (c74 _).val fun H3 s3=>?_
      conv=>whnf
      exact⟨⟨_,rfl⟩,_,rfl,IOn_step hI hLi s3 rfl rfl trivial (by decide)⟩
    ·
      cases ho
      conv=>whnf
      refine (c74 _).val fun H3 s3=>?_
      conv=>whnf
      exact⟨⟨_,rfl⟩,_,rfl,IOn_step hI hLi s3 rfl rfl trivial (by decide)⟩
    ·
      cases ho
      conv=>whnf
      refine (c74 _).val fun H3 s3=>?_
      conv=>whnf
      exact⟨⟨_,rfl⟩,_,rfl,IOn_step hI hLi s3 rfl rfl trivial (by decide)⟩
    ·
      cases ho
      conv=>whnf
      exact⟨⟨_,rfl⟩,_,rfl,IOn_step hI hLi (Sub.refl _) rfl rfl trivial (by decide)⟩
    ·
      cases ho
      have h:=get 56 _ rfl (by kernel_rfl)
      change V 56=_ at h
      conv=>whnf
      rw[h]
      conv=>whnf
      refine (c54 4 _).val fun H3 s3=>?_
      conv=>whnf
      exact⟨⟨_,rfl⟩,_,rfl,IOn_step hI hLi s3 rfl rfl trivial (by decide)⟩
    ·
      cases ho
      conv=>whnf
      have h53:=get 53 _ rfl (by kernel_rfl)
      change V 53=_ at h53
      have h54:=get 54 _ rfl (by kernel_rfl)
      change V 54=_ at h54
      have h55:=get 55 _ rfl (by kernel_rfl)
      change V 55=_ at h55
      have h57:=get 57 _ rfl (by kernel_rfl)
      change V 57=_ at h57
      rw[h53]
      conv=>whnf
      rw[h54]
      conv=>whnf
      rw[h55]
      conv=>whnf
      rw[h57]
      conv=>whnf
      intro b hb hO
      conv=>whnf
      exact⟨⟨_,rfl⟩,_,rfl,IOn_step hI hLi (sub_ins _ _ hb) rfl (quad_num (ins_same _ _ _)) (numN_new hI.2.1 hb rfl rfl) (by decide)⟩
    ·
      cases ho
      have h:=get 58 _ rfl (by kernel_rfl)
      conv=>whnf
      refine (c143m _ (by decide) _ _ h).use fun u H3 s3 hq=>?_
      obtain⟨_,hq⟩:=hq
      conv=>whnf
      exact⟨⟨_,rfl⟩,_,rfl,IOn_step hI hLi s3 rfl hq.mat (hq.base hI.2.1) (by decide)⟩
    ·
      cases ho
      have h0:=hsee 0 (by kernel_rfl)
      have hs:=hsee 59 (by kernel_rfl)
      obtain⟨b,es,clk,hV0,hO,hF,_⟩:=hI.1.2.2.1 h0
      conv=>whnf
      unfold enterK
      refine .inl ?_
      refine⟨.i64,10,b,⟨es⟩,clk,rfl,hV0,hO,(hF 10 0).1 (keyVal_none (x:=(10,60,59)) (by decide) hLi),?_⟩
      conv=>whnf
      exact⟨⟨_,rfl⟩,_,rfl,IOn_ins (x:=(10,60,59)) (by decide) hI hLi hs h0 hV0 hO rfl⟩
    ·
      cases ho
      conv=>whnf
      refine (c133m tSwap 4 (by decide) (by decide) _ (.func 196) #[] #[] (fun k hk=>⟨196,[],[],rfl,fun H4 _=>c145 k hk H4⟩)).use fun u H3 s3 hq=>?_
      obtain⟨_,hq⟩:=hq
      conv=>whnf
      exact⟨⟨_,rfl⟩,_,rfl,IOn_step hI hLi s3 rfl hq.mat (hq.base hI.2.1) (by decide)⟩
    ·
      cases ho
      have h0:=hsee 0 (by kernel_rfl)
      have hs:=hsee 61 (by kernel_rfl)
      obtain⟨b,es,clk,hV0,hO,hF,_⟩:=hI.1.2.2.1 h0
      conv=>whnf
      unfold enterK
      refine .inl ?_
      refine⟨.i64,11,b,⟨es⟩,clk,rfl,hV0,hO,(hF 11 0).1 (keyVal_none (x:=(11,62,61)) (by decide) hLi),?_⟩
      conv=>whnf
      exact⟨⟨_,rfl⟩,_,rfl,IOn_ins (x:=(11,62,61)) (by decide) hI hLi hs h0 hV0 hO rfl⟩
    ·
      cases ho
      conv=>whnf
      refine (c133m tCCX 8 (by decide) (by decide) _ (.func 197) #[] #[] (fun k hk=>⟨197,[],[],rfl,fun H4 _=>c146 k hk H4⟩)).use fun u H3 s3 hq=>?_
      obtain⟨_,hq⟩:=hq
      conv=>whnf
      exact⟨⟨_,rfl⟩,_,rfl,IOn_step hI hLi s3 rfl hq.mat (hq.base hI.2.1) (by decide)⟩
    ·
      cases ho
      have h0:=hsee 0 (by kernel_rfl)
      have hs:=hsee 63 (by kernel_rfl)
      obtain⟨b,es,clk,hV0,hO,hF,_⟩:=hI.1.2.2.1 h0
      conv=>whnf
      unfold enterK
      refine .inl ?_
      refine⟨.i64,12,b,⟨es⟩,clk,rfl,hV0,hO,(hF 12 0).1 (keyVal_none (x:=(12,64,63)) (by decide) hLi),?_⟩
      conv=>whnf
      exact⟨⟨_,rfl⟩,_,rfl,IOn_ins (x:=(12,64,63)) (by decide) hI hLi hs h0 hV0 hO rfl⟩
    ·
      cases ho
      have h0:=hsee 0 (by kernel_rfl)
      conv=>whnf
      exact⟨⟨_,rfl⟩,_,rfl,IOn_same hI hLi h0 (.inl rfl) fun b h=>h⟩
    ·
      cases ho
      have h65:=hsee 65 (by kernel_rfl)
      have h0:L 0=true:=by
        cases e:L 0 with
        | true=>rfl
        | false=>have:=(hI.1.2.2.2 e).2.1;rw[h65] at this;cases this
      obtain⟨b,es,clk,hV0,_,_,h5,_⟩:=hI.1.2.2.1 h0
      conv=>whnf
      exact⟨⟨_,rfl⟩,_,rfl,IOn_same hI hLi h0 (.inr rfl) fun b' h=>(h5 h65).trans (hV0.symm.trans h)⟩
  · intro L V H' O' hI hL
    have hl:∀ j,j < 67→L j=true:=fun j hj=>hL j hj
    obtain⟨b,es,clk,hV0,hO,hF,_,h66⟩:=hI.1.2.2.1 (hl 0 (by decide))
    conv=>whnf
    refine⟨b,es,clk,h66 (hl 66 (by decide)),hO,fun k k1 k2=>?_,fun n hn=>(hF n 0).1 ?_⟩
    · obtain rfl | rfl | rfl | rfl | rfl | rfl | rfl | rfl | rfl | rfl | rfl | rfl:k=1∨k=2∨k=3∨k=4∨k=5∨k=6∨k=7∨k=8∨k=9∨k=10∨k=11∨k=12:=by omega
      · obtain⟨j,hj⟩:=(hF 1 0).2 _ (keyVal_some (x:=(1,2,1)) (by decide) (hl 2 (by decide)))
        exact⟨j,_,hj,hI.2.2 1 _ rfl (hl 1 (by decide))⟩
      · obtain⟨j,hj⟩:=(hF 2 0).2 _ (keyVal_some (x:=(2,12,11)) (by decide) (hl 12 (by decide)))
        exact⟨j,_,hj,hI.2.2 11 _ rfl (hl 11 (by decide))⟩
      · obtain⟨j,hj⟩:=(hF 3 0).2 _ (keyVal_some (x:=(3,18,17)) (by decide) (hl 18 (by decide)))
        exact⟨j,_,hj,hI.2.2 17 _ rfl (hl 17 (by decide))⟩
      · obtain⟨j,hj⟩:=(hF 4 0).2 _ (keyVal_some (x:=(4,26,25)) (by decide) (hl 26 (by decide)))
        exact⟨j,_,hj,hI.2.2 25 _ rfl (hl 25 (by decide))⟩
      · obtain⟨j,hj⟩:=(hF 5 0).2 _ (keyVal_some (x:=(5,32,31)) (by decide) (hl 32 (by decide)))
        exact⟨j,_,hj,hI.2.2 31 _ rfl (hl 31 (by decide))⟩
      · obtain⟨j,hj⟩:=(hF 6 0).2 _ (keyVal_some (x:=(6,38,37)) (by decide) (hl 38 (by decide)))
        exact⟨j,_,hj,hI.2.2 37 _ rfl (hl 37 (by decide))⟩
      · obtain⟨j,hj⟩:=(hF 7 0).2 _ (keyVal_some (x:=(7,44,43)) (by decide) (hl 44 (by decide)))
        exact⟨j,_,hj,hI.2.2 43 _ rfl (hl 43 (by decide))⟩
      · obtain⟨j,hj⟩:=(hF 8 0).2 _ (keyVal_some (x:=(8,50,49)) (by decide) (hl 50 (by decide)))
        exact⟨j,_,hj,hI.2.2 49 _ rfl (hl 49 (by decide))⟩
      · obtain⟨j,hj⟩:=(hF 9 0).2 _ (keyVal_some (x:=(9,52,51)) (by decide) (hl 52 (by decide)))
        exact⟨j,_,hj,hI.2.2 51 _ rfl (hl 51 (by decide))⟩
      · obtain⟨j,hj⟩:=(hF 10 0).2 _ (keyVal_some (x:=(10,60,59)) (by decide) (hl 60 (by decide)))
        exact⟨j,_,hj,hI.2.2 59 _ rfl (hl 59 (by decide))⟩
      · obtain⟨j,hj⟩:=(hF 11 0).2 _ (keyVal_some (x:=(11,62,61)) (by decide) (hl 62 (by decide)))
        exact⟨j,_,hj,hI.2.2 61 _ rfl (hl 61 (by decide))⟩
      · obtain⟨j,hj⟩:=(hF 12 0).2 _ (keyVal_some (x:=(12,64,63)) (by decide) (hl 64 (by decide)))
        exact⟨j,_,hj,hI.2.2 63 _ rfl (hl 63 (by decide))⟩
    · have h12:∀ x∈tabO,1≤x.1∧x.1≤12:=by decide
      unfold keyVal
      rw[show (tabO.find? fun y=>((y.1:Int) == n) && L y.2.1)=none from List.find?_eq_none.2 fun y hy h=>?_]
      · rfl
      · simp only[Bool.and_eq_true,beq_iff_eq] at h
        have:=h12 y hy
        omega
theorem c21m (k : Int) (H:PH):Cl Tryz.prog 43 [.int .i64 k] H emp fun r _ M'=>OutO M' r (OfR k):=by
  by_cases hk:1≤k∧k≤12
  · have e:OfR k=(opM k.toNat,0):=if_pos hk
    rw[e]
    refine Cl.mine (Q:=fun r u=>r=.tuple #[u,.int .i64 0]) ?_
    obtain⟨n,rfl⟩:=nat_of (a:=k) (by omega)
    rw[Int.toNat_natCast]
    refine Cl_of (pol:=polL) Γok Tryz.func43 (by kernel_rfl) rfl ?_
    conv=>whnf
    refine (c75n _).use fun r H1 s1 hr=>?_
    obtain⟨_,b,es,clk,rfl,hb,hkk,_⟩:=hr
    obtain⟨j,u,hj,hu⟩:=hkk n (by omega) (by omega)
    conv=>whnf
    unfold lookK
    refine⟨.i64,n,rfl,.inr ⟨b,⟨es⟩,clk,_,rfl,.inl hb,hj,?_⟩⟩
    intro z
    conv=>whnf
    exact⟨u,rfl,hu⟩
  · have e:OfR k=([],3):=if_neg hk
    rw[e]
    refine Cl_of (pol:=polL) Γok Tryz.func43 (by kernel_rfl) rfl ?_
    conv=>whnf
    refine (c75n _).use fun r H1 s1 hr=>?_
    obtain⟨_,b,es,clk,rfl,hb,_,hno⟩:=hr
    have hj:=hno k (by omega)
    conv=>whnf
    unfold lookK
    refine⟨.i64,k,rfl,.inr ⟨b,⟨es⟩,clk,_,rfl,.inl hb,hj,?_⟩⟩
    intro z
    conv=>whnf
    exact⟨_,rfl,.inl ⟨rfl,rfl⟩⟩
end Go.Proofs.YtgbhgfdgifkdhaaGreat

namespace Go.Proofs.YtgbhgfdgifkdhaaGreat
open Go.Proofs.YtgbhgfdgifkdhaaGreat.X Go.Proofs.YtgbhgfdgifkdhaaGreat.X.PH
set_option maxRecDepth 100000
theorem idM_diag : ∀ n,n≤6→idM (2 ^ n) (2 ^ n)=diagR (fun _=>oneN) (2 ^ n) (2 ^ n):=by
  intro n hn
  obtain rfl | rfl | rfl | rfl | rfl | rfl | rfl:n=0∨n=1∨n=2∨n=3∨n=4∨n=5∨n=6:=by omega
  all_goals kernel_rfl
theorem c20o (n : Int) (H:PH):Cl Tryz.prog 42 [.int .i64 n] H emp fun r _ M'=>OutO M' r (IdMR n):=by
  by_cases hn:n < 0∨n > 6
  · have e:IdMR n=([],3):=if_pos hn
    rw[e]
    refine Cl_of (pol:=polL) Γok Tryz.func42 (by kernel_rfl) rfl ?_
    conv=>whnf
    refine if_intro (fun h=>?_) (fun h=>?_)
    · conv=>whnf
      exact⟨_,rfl,.inl ⟨rfl,rfl⟩⟩
    have h1:=of_decide_eq_false h
    conv=>whnf
    refine if_intro (fun h=>?_) (fun h=>?_)
    · conv=>whnf
      exact⟨_,rfl,.inl ⟨rfl,rfl⟩⟩
    have h2:=of_decide_eq_false h
    omega
  · have e:IdMR n=(diagR (fun _=>oneN) (2 ^ n.toNat) (2 ^ n.toNat),0):=if_neg hn
    rw[e]
    obtain⟨n,rfl⟩:=nat_of (a:=n) (by omega)
    rw[Int.toNat_natCast,← idM_diag n (by omega)]
    exact c20m n (by omega) H
theorem c22o (m : Mx) (hlm:m.length < 1000000) (ws:List Int) (hws:ws.length < 100000) (n:Int) (H:PH) (u v:Value) (hu:MatH H u m) (hv:IntsH H v ws) :
    Cl Tryz.prog 44 [u,v,.int .i64 n] H emp fun r _ M'=>OutO M' r (resM (onErr m ws n) (onAt m ws) (2 ^ n.toNat) (2 ^ n.toNat)):=
  (c22 m hlm ws hws n H u v hu hv).mono fun r H' M' _ hr=>by
    rcases hr with⟨h,rfl⟩ | ⟨h,hm⟩
    · rw[resM_bad h]
      exact .bad
    · have hn:¬ (decide (n < 0) || decide (n > 6))=true:=fun e=>by
        unfold onErr at h
        by_cases q:checkMF m ≠ 0
        · rw[if_pos q] at h;exact q h
        · rw[if_neg q,if_pos e] at h;cases h
      have hn6:n.toNat≤6:=by
        simp at hn
        omega
      have p2:2 ^ n.toNat < 1000000:=by
        have:2 ^ n.toNat≤2 ^ 6:=Nat.pow_le_pow_right (by decide) hn6
        omega
      exact MadeE.out p2 p2 hm h
set_option maxHeartbeats 4000000 in
theorem c3 (kind size : Int) (m:Mx) (ws:List Int) (hlm:m.length < 9223372036854775808) (hlw:ws.length < 9223372036854775808) (H:PH) (u v:Value) (hu:MatH H u m) (hv:IntsH H v ws) :
    Cl Tryz.prog 8 [.int .i64 kind,.int .i64 size,u,v] H emp fun r _ _=>r=.bool true:=by
  obtain⟨base,cap,rfl⟩:=hu.sl
  obtain⟨wb,wc,rfl,_⟩:=id hv
  refine Cl_of (pol:=fun | 27=>.imm | 107=>.own | _=>.loc) Γok Tryz.func8 (by kernel_rfl) rfl ?_
  conv=>whnf
  intro b hb _
  conv=>whnf
  have s1:=sub_ins H (.cells ⟨[.slice base m.length cap]⟩ 23 (0,0)) hb
  refine (c13 [m] (by simp) (by simp;omega) _ _ (one_mats (ins_same _ _ _) (hu.up s1))).val fun H1 s2=>?_
  conv=>whnf
  refine if_intro (fun hg=>?_) (fun hg=>?_)
  · conv=>whnf
    refine (c14 _).val fun H2 s3=>?_
    conv=>whnf
  conv=>whnf
  refine if_intro (fun h9=>?_) (fun h9=>?_)
  · conv=>whnf
    refine (c14 _).val fun H2 s3=>?_
    conv=>whnf
  have h9:ws.length≤9:=by
    have:=of_decide_eq_false h9
    omega
  have hle:=big_le hg
  obtain⟨hm8,hmr⟩:=hle m (by simp)
  have hu1:=(hu.up s1).up s2
  have hv1:=IntsH.up (IntsH.up hv s1) s2
  clear hu hv
  conv=>whnf
  refine (c15' m _ _ hu1 (by omega) (fun r hr=>by have:=hmr r hr;omega)).use fun p H2 s3 hp=>?_
  obtain⟨_,hp⟩:=hp
  replace hu1:=hu1.up s3
  replace hv1:=IntsH.up hv1 s3
  conv=>whnf
  refine (c16' ws (by omega) _ _ hv1).use fun q H3 s4 hq=>?_
  obtain⟨_,hq⟩:=hq
  replace hp:=hp.up s4
  replace hu1:=hu1.up s4
  replace hv1:=IntsH.up hv1 s4
  conv=>whnf
  refine (Cl.outH (x:=IdMR size) (c17o size _)).use fun r H4 s5 hr=>?_
  obtain⟨_,w1,rfl,hw1⟩:=hr
  conv=>whnf
  refine (c18 kind _).use fun r H5 s6 hr=>?_
  obtain⟨_,w2,rfl,hw2⟩:=hr
  conv=>whnf
  refine (Cl.outH (c19 m (by omega) ws (by omega) size _ _ _ ((hu1.up s5).up s6) (IntsH.up (IntsH.up hv1 s5) s6))).use fun r H6 s7 hr=>?_
  obtain⟨_,w3,rfl,hw3⟩:=hr
  have ss:=s5.trans (s6.trans s7)
  replace hw1:=hw1.up (s6.trans s7)
  replace hw2:=hw2.up s7
  replace hp:=hp.up ss
  replace hq:=IntsH.up hq ss
  replace hu1:=hu1.up ss
  replace hv1:=IntsH.up hv1 ss
  conv=>whnf
  have k1:OwnL emp emp []:=Sub.refl _
  refine (k1.call (c20o size _)).mono fun r H8 O8 t1 hr=>?_
  obtain⟨a1,rfl,k2⟩:=hr
  conv=>whnf
  refine (k2.call (c21m kind _)).mono fun r H9 O9 t2 hr=>?_
  obtain⟨a2,rfl,k3⟩:=hr
  conv=>whnf
  refine (k3.call (c22o m (by omega) ws (by omega) size _ _ _ ((hp.up t1).up t2) (IntsH.up (IntsH.up hq t1) t2))).mono fun r H10 O10 t3 hr=>?_
  obtain⟨a3,rfl,k5⟩:=hr
  have tt:=t1.trans (t2.trans t3)
  clear k1 k2 k3
  replace hw1:=hw1.up tt
  replace hw2:=hw2.up tt
  replace hw3:=hw3.up tt
  replace hp:=hp.up tt
  replace hq:=IntsH.up hq tt
  replace hu1:=hu1.up tt
  replace hv1:=IntsH.up hv1 tt
  have c21k:=fun H=>c21m kind H
  generalize IdMR size=A1 at *
  generalize OfR kind=A2 at *
  generalize resM (onErr m ws size) (onAt m ws) (2 ^ size.toNat) (2 ^ size.toNat)=A3 at *
  replace k5:OwnL emp O10 [(a1,A1.1),(a2,A2.1),(a3,A3.1)]:=k5
  conv=>whnf
  rw[bne_self_eq_false]
  conv=>whnf
  rw[bne_self_eq_false]
  conv=>whnf
  rw[bne_self_eq_false]
  conv=>whnf
  refine (c23L k5 (by simp) hw1).mono fun r H12 O12 t5 hr=>?_
  obtain⟨o1,rfl⟩:=hr
  replace k5:=k5.up o1
  conv=>whnf
  refine (c23L k5 (by simp) (hw2.up t5)).mono fun r H13 O13 t6 hr=>?_
  obtain⟨o2,rfl⟩:=hr
  replace k5:=k5.up o2
  conv=>whnf
  refine (c23L k5 (by simp) ((hw3.up t5).up t6)).mono fun r H14 O14 t7 hr=>?_
  obtain⟨o3,rfl⟩:=hr
  replace k5:=k5.up o3
  obtain⟨y1,y2,y3,rfl⟩:=(k5.mem (u:=a1) (x:=A1.1) (by simp)).sl
  obtain⟨z1,z2,z3,rfl⟩:=(k5.mem (u:=a2) (x:=A2.1) (by simp)).sl
  obtain⟨v1,v2,v3,rfl⟩:=(k5.mem (u:=a3) (x:=A3.1) (by simp)).sl
  conv=>whnf
  intro bs _ hbs
  replace k5:=k5.ins (o:=.cells ⟨[.slice y1 y2 y3,.slice z1 z2 z3,.slice v1 v2 v3]⟩ 23 (0,0)) hbs
  conv=>whnf
  refine W_loop (pol:=polL) Γok (Nat × PH × PH) (fun i=>i.1≤3∧Sub H14 i.2.1∧OwnL (ins emp bs (.cells ⟨[.slice y1 y2 y3,.slice z1 z2 z3,.slice v1 v2 v3]⟩ 23 (0,0))) i.2.2 (List.drop i.1 [(.slice y1 y2 y3,A1.1),(.slice z1 z2 z3,A2.1),(.slice v1 v2 v3,A3.1)])) (fun i=>3 - i.1) (fun i=>[(109,.v (.int .i64 i.1))]) (fun _=>[]) (fun i=>i.2.1) (fun i=>i.2.2) ⟨(0,H14,_),⟨by simp,Sub.refl _,k5⟩,rfl,rfl,?_⟩ ?_
  · conv=>whnf
    repeat (refine⟨rfl,?_⟩;conv=>whnf)
    exact trivial
  · rintro ⟨i,H16,O16⟩ ⟨h1,t9,k6⟩
    dsimp only at h1 t9 k6
    rcases (show i=0∨i=1∨i=2∨i=3 by omega) with rfl | rfl | rfl | rfl
    · conv=>whnf
      refine⟨[.slice y1 y2 y3],⟨rfl,rfl,_,_,_,.inr (k6.rem _ _ (ins_same _ _ _)),rfl⟩,?_⟩
      conv=>whnf
      refine (c24L k6).mono fun r H17 O17 t10 k7=>?_
      conv=>whnf
      refine⟨(1,H17,O17),⟨by dsimp only;omega,t9.trans t10,k7⟩,by dsimp only;omega,?_⟩
      conv=>whnf
      refine⟨rfl,rfl,?_⟩
      conv=>whnf
      repeat (refine⟨rfl,?_⟩;conv=>whnf)
      exact trivial
    · conv=>whnf
      refine⟨[.slice z1 z2 z3],⟨rfl,rfl,_,_,_,.inr (k6.rem _ _ (ins_same _ _ _)),rfl⟩,?_⟩
      conv=>whnf
      refine (c24L k6).mono fun r H17 O17 t10 k7=>?_
      conv=>whnf
      refine⟨(2,H17,O17),⟨by dsimp only;omega,t9.trans t10,k7⟩,by dsimp only;omega,?_⟩
      conv=>whnf
      refine⟨rfl,rfl,?_⟩
      conv=>whnf
      repeat (refine⟨rfl,?_⟩;conv=>whnf)
      exact trivial
    · conv=>whnf
      refine⟨[.slice v1 v2 v3],⟨rfl,rfl,_,_,_,.inr (k6.rem _ _ (ins_same _ _ _)),rfl⟩,?_⟩
      conv=>whnf
      refine (c24L k6).mono fun r H17 O17 t10 k7=>?_
      conv=>whnf
      refine⟨(3,H17,O17),⟨by dsimp only;omega,t9.trans t10,k7⟩,by dsimp only;omega,?_⟩
      conv=>whnf
      refine⟨rfl,rfl,?_⟩
      conv=>whnf
      repeat (refine⟨rfl,?_⟩;conv=>whnf)
      exact trivial
    conv=>whnf
    have t:=t5.trans (t6.trans (t7.trans t9))
    have hmr':∀ r∈m,r.length < 9223372036854775808:=fun r hr=>by have:=hmr r hr;omega
    have k8:OwnL emp O16 []:=fun n o hn=>by cases hn
    refine (k8.call (c21k _)).mono fun r H18 O18 t11 hr=>?_
    obtain⟨a4,rfl,k9⟩:=hr
    conv=>whnf
    rw[beq_self_eq_true]
    conv=>whnf
    refine (c23L k9 (by simp) ((hw2.up t).up t11)).mono fun r H19 O19 t12 hr=>?_
    obtain⟨o4,rfl⟩:=hr
    conv=>whnf
    have t':=t.trans (t11.trans t12)
    refine (c23 m m _ _ _ (hp.up t') (hu1.up t') (by omega) hmr').val fun H20 t13=>?_
    rw[eqM_refl]
    conv=>whnf
    refine (c25 ws ws (by omega) _ _ _ (IntsH.up hq (t'.trans t13)) (IntsH.up hv1 (t'.trans t13))).val fun H21 t14=>?_
    rw[decide_eq_true rfl]
    conv=>whnf
    refine (c14 _).val fun H22 t15=>?_
    conv=>whnf
end Go.Proofs.YtgbhgfdgifkdhaaGreat

namespace Go.Proofs.YtgbhgfdgifkdhaaGreat
open Go.Proofs.YtgbhgfdgifkdhaaGreat.X Go.Proofs.YtgbhgfdgifkdhaaGreat.X.PH
set_option maxRecDepth 100000
theorem jAsk (m n : Mx) (h0:0 < m.length) (hlm:m.length < 1000000) (hln:n.length < 1000000) (hr:∀ r∈m,r.length < 1000000) (H:PH) (u v:Value) (hu:MatH H u m) (hv:MatH H v n) :
    Cl Tryz.prog 9 [u,v] H emp fun r _ _=>r=.bool true:=by
  obtain⟨base,cap,rfl⟩:=hu.sl
  obtain⟨base',cap',rfl⟩:=hv.sl
  refine Cl_of (pol:=polL) Γok Tryz.func9 (by kernel_rfl) rfl ?_
  conv=>whnf
  refine W_draw (pol:=polL) Γok mixes [(0,.pendO),(1,.lock),(2,.pendO),(3,.pendO),(4,.pendO),(5,.lock),(6,.pendO),(7,.pendO),(8,.pendO),(9,.pendO),(10,.pendO),(11,.lock),(12,.pendO),(13,.pendO),(14,.pendO),(15,.lock),(16,.pendO),(17,.pendO),(18,.pendO),(19,.pendO),(20,.pendO),(21,.pendO),(22,.pendO),(23,.pendO),(24,.pendO),(25,.pendO),(26,.pendO),(27,.pendO),(28,.lock),(29,.pendO),(30,.pendO)] 35 (by kernel_rfl) rfl ?_
  conv=>whnf
  refine (c4 c14 m (by omega) _ _ hu).val fun H1 s1=>?_
  replace hu:=hu.up s1
  replace hv:=hv.up s1
  conv=>whnf
  refine (c5 m n (by omega) (by omega) _ _ _ hu hv).val fun H2 s2=>?_
  replace hu:=hu.up s2
  replace hv:=hv.up s2
  conv=>whnf
  refine (c6 m n ((⟨1,1,0,0⟩:P4),1) (by omega) (by omega) _ _ _ hu hv).val fun H3 s3=>?_
  replace hu:=hu.up s3
  replace hv:=hv.up s3
  conv=>whnf
  refine (c10 m (by omega) _ _ hu).val fun H4 s4=>?_
  replace hu:=hu.up s4
  replace hv:=hv.up s4
  conv=>whnf
  obtain⟨b,off,rb,rc,rfl,hrd,hn⟩:=hu.rd (O:=emp) h0
  obtain⟨b2,off2,rb2,rc2,e2,hrd2,hn2⟩:=hu.rd (O:=emp) (i:=m.length - 1) (by omega)
  cases e2
  refine dec_intro (by omega) ?_
  conv=>whnf
  refine⟨_,hrd,?_⟩
  conv=>whnf
  rw[show IntKind.i64.wrap ((m.length:Int) - 1)=((m.length - 1:Nat):Int) from by rw[wrap_id (by omega) (by omega)];omega]
  refine dec_intro (by omega) ?_
  conv=>whnf
  refine⟨_,hrd2,?_⟩
  conv=>whnf
  refine (c7 Apply_eq Inner_eq n m[0] m[m.length - 1] (by omega) (by have:=hr _ (List.getElem_mem h0);omega) (by have:=hr _ (List.getElem_mem (show m.length - 1 < m.length by omega));omega) _ _ _ _ hv hn hn2).val fun H5 s5=>?_
  conv=>whnf
theorem RowsS.nil (M : PH):RowsS M [] (intsF ([].take 0)):=⟨rfl,fun i u r hu _=>by simp at hu,fun i j b n c n' c' hi _=>by simp at hi⟩
theorem NumO.pubN {H0 H M : PH} {v:Value} {l:List (P4 × Int)} {out:Value} {xs:List (List Value)} {us:List Value} {m:Mx} (hd:Dis H M) (hs:Sub H0 H) (h:NumO M v l) (ho:OwnS M 1 31 out xs) (hr:RowsS (newH H0 H) us m) :
    ∃ H' M',Repart H M H' M'∧NumH H' v l∧OwnS M' 1 31 out xs∧RowsS (newH H0 H') (us++[v]) (m++[l]):=by
  have hN:=h
  obtain⟨h1,h⟩:=h
  rcases h with⟨rfl,h⟩ | ⟨b,cap,spare,rfl,hO,hcap,hsp⟩
  · have:l=[]:=by simpa using h
    subst this
    refine⟨H,M,.refl hd,⟨none,0,rfl,.inl ⟨rfl,rfl⟩⟩,ho,?_⟩
    exact (hr.snoc (N:=emp) (fun n=>.inl rfl) (show OwnS emp 5 33 _ _ from ⟨by simp,.inl ⟨rfl,rfl⟩⟩)).keep fun n cs hn=>hn
  · have hb:H b=none:=(hd b).resolve_right (by rw[hO];simp)
    have hb0:H0 b=none:=by
      cases e:H0 b with
      | none=>rfl
      | some o=>rw[hs b o e] at hb;cases hb
    refine⟨_,_,.one hd hO,⟨some ⟨b,0,none⟩,cap,by simp,.inr ⟨b,0,_,_,_,rfl,ins_same _ _ _,?_⟩⟩,OwnS.keep ho fun n cs hn=>(del_ne _ fun e=>(by rw[e,hO] at hn;cases hn)).trans hn,?_⟩
    · simp[cellsN]
    · refine (hr.snoc (N:=PH.ins emp b (.cells ⟨(l.map cellsOf).flatten++spare⟩ 33 (0,0))) (fun n=>?_) (show OwnS _ 5 33 _ _ from ⟨h1,.inr ⟨b,cap,spare,rfl,ins_same _ _ _,hcap,hsp⟩⟩)).keep fun n cs hn=>?_
      · by_cases e:n=b
        · subst e
          right
          unfold newH
          rw[hb0]
          exact hb
        · exact .inl (ins_ne _ _ e)
      · unfold un at hn
        by_cases e:n=b
        · subst e
          rw[ins_same] at hn
          exact newH_some hb0 ((ins_same _ _ _).trans hn)
        · rw[ins_ne _ _ e] at hn
          exact newH_up (sub_ins H _ hb) _ _ hn
set_option maxHeartbeats 1000000 in
theorem c64n (ll : List (List Int)) (hlen:ll.length≤100000) (hrow:∀ l∈ll,l.length≤100000) (H:PH) (v:Value) (hv:IntssH H v ll) :
    Cl Tryz.prog 10 [v] H emp fun r H' M'=>∃ us,OwnS M' 1 31 r (us.map fun u=>[u])∧RowsS (newH H H') us (intsF ll):=by
  obtain⟨base,cap,rfl⟩:∃ base cap,v=.slice base ll.length cap:=by
    obtain⟨_,_,⟨b,c,h,_⟩,_⟩:=hv
    exact⟨b,c,h⟩
  refine Cl_of (pol:=polI) Γok Tryz.func10 (by kernel_rfl) rfl ?_
  conv=>whnf
  refine W_loop (pol:=polI) Γok (Nat × PH × Value × PH) (fun i=>i.1≤ll.length∧Sub H i.2.1∧∃ us,OwnS i.2.2.2 1 31 i.2.2.1 (us.map fun u=>[u])∧RowsS (newH H i.2.1) us (intsF (ll.take i.1))) (fun i=>ll.length - i.1) (fun i=>[(11,.v (.int .i64 i.1)),(3,.v i.2.2.1)]) (fun _=>[]) (fun i=>i.2.1) (fun i=>i.2.2.2) ⟨(0,H,.slice none 0 0,emp),⟨by simp,Sub.refl _,[],?_,?_⟩,rfl,rfl,?_⟩ ?_
  · exact⟨by simp,.inl ⟨rfl,by simp⟩⟩
  · exact RowsS.nil _
  · conv=>whnf
    repeat (refine⟨rfl,?_⟩;conv=>whnf)
    exact trivial
  · rintro ⟨i,H',out,O'⟩ ⟨h1,h2,us,h3,h4⟩
    dsimp only at h1 h2 h3 h4
    conv=>whnf
    refine if_intro (fun h=>?_) (fun h=>?_)
    · have hi:i < ll.length:=by simpa using h
      obtain⟨b,off,base',cap',rfl,hrd,hn⟩:=(hv.up h2).rd hi
      conv=>whnf
      refine dec_intro (by omega) ?_
      conv=>whnf
      refine⟨_,hrd _,?_⟩
      conv=>whnf
      have hl:=hrow _ (List.getElem_mem hi)
      refine W_repart ?_
      refine W_loopX (pol:=polI) Γok (Nat × PH × Value × PH) (fun k=>k.1≤ll[i].length∧Sub H' k.2.1∧OwnS k.2.2.2 1 31 out (us.map fun u=>[u])∧NumO k.2.2.2 k.2.2.1 (intsL (ll[i].take k.1))) (fun k=>ll[i].length - k.1)
        (fun e k=>e=.exit 2∧Sub H' k.2.1∧OwnS k.2.2.2 1 31 out (us.map fun u=>[u])∧NumO k.2.2.2 k.2.2.1 (intsL ll[i])) (fun k=>[(17,.v (.int .i64 k.1)),(6,.v k.2.2.1)]) (fun _=>[]) (fun k=>k.2.1) (fun k=>k.2.2.2) ⟨(0,H',.slice none 0 0,O'),⟨by simp,Sub.refl _,h3,?_⟩,rfl,rfl,?_⟩ ?_ ?_
      · exact⟨by simp[intsL],.inl ⟨rfl,by simp[intsL]⟩⟩
      · conv=>whnf
        repeat (refine⟨rfl,?_⟩;conv=>whnf)
        exact trivial
      · rintro ⟨k,H2,l,O2⟩ ⟨k1,k2,k3,k4⟩
        dsimp only at k1 k2 k3 k4
        conv=>whnf
        refine if_intro (fun h=>?_) (fun h=>?_)
        · have hk:k < ll[i].length:=by simpa using h
          obtain⟨b2,off2,rfl,hrd2⟩:=(hn.up k2).rd hk
          conv=>whnf
          refine dec_intro (by omega) ?_
          conv=>whnf
          refine⟨_,hrd2 _,?_⟩
          conv=>whnf
          refine (c65 ll[i][k] _).val fun H3 s3=>?_
          conv=>whnf
          intro b3 hb3 hO3
          conv=>whnf
          refine append_one' (xs:=(intsL (ll[i].take k)).map cellsOf) (y:=cellsOf (intN ll[i][k])) k4 rfl rfl (cellsOf_one _) ⟨_,_,_,rfl,rfl,Rd.whole (ins_same _ _ _)⟩ ?_ fun v O3 hO3 hkeep=>?_
          · simp[intsL]
            omega
          conv=>whnf
          have s4:=sub_ins H3 (.cells ⟨cellsOf (intN ll[i][k])⟩ 33 (0,0)) hb3
          refine⟨(k+1,ins H3 b3 (.cells ⟨cellsOf (intN ll[i][k])⟩ 33 (0,0)),v,O3),⟨hk,k2.trans (s3.trans s4),?_,?_⟩,by dsimp only;omega,?_⟩
          · refine OwnS.keep k3 fun n cs hn=>hkeep n _ hn fun cap e=>?_
            dsimp only at e
            rcases k4.2 with⟨e',_⟩ | ⟨b',cap',spare,e',hO',_⟩
            · rw[e] at e';cases e'
            · rw[e] at e'
              cases e'
              rw[hn] at hO'
              cases hO'
          · dsimp only
            rw[List.take_succ_eq_append_getElem hk]
            unfold intsL
            rw[List.map_append]
            show OwnS O3 5 33 v (List.map cellsOf (_++_))
            rw[List.map_append]
            exact hO3
          · conv=>whnf
            refine⟨rfl,rfl,?_⟩
            conv=>whnf
            repeat (refine⟨rfl,?_⟩;conv=>whnf)
            refine⟨by show En.v (.int .i64 (IntKind.i64.wrap (k+1)))=_;rw[wrap_id (by omega) (by omega)];rfl,?_⟩
            conv=>whnf
            repeat (refine⟨rfl,?_⟩;conv=>whnf)
            exact trivial
        · have hk:ll[i].length≤k:=by simpa using h
          conv=>whnf
          refine .inr ⟨(k,H2,l,O2),⟨rfl,k2,k3,?_⟩,?_⟩
          · rw[List.take_of_length_le hk] at k4;exact k4
          · conv=>whnf
            refine⟨rfl,rfl,?_⟩
            conv=>whnf
            repeat (refine⟨rfl,?_⟩;conv=>whnf)
            exact trivial
      · rintro e ⟨k,H2,l,O2⟩ ⟨rfl,k2,k3,k4⟩
        dsimp only at k2 k3 k4
        refine .inr fun hd=>?_
        obtain⟨H3,O3,rp,hn3,ho3,hr3⟩:=NumO.pubN hd (h2.trans k2) k4 k3 (h4.keep fun n cs hn=>newH_up k2 _ _ hn)
        obtain⟨rb,rc,rfl⟩:∃ rb rc,l=.slice rb (intsL ll[i]).length rc:=by
          obtain⟨b,c,h,_⟩:=hn3
          exact⟨b,c,h⟩
        refine⟨H3,O3,rp,?_⟩
        conv=>whnf
        intro b2 hb2 hO2
        conv=>whnf
        refine append_one (xs:=us.map fun u=>[u]) (y:=[.slice rb (intsL ll[i]).length rc]) ho3 rfl rfl (slice_one hn3) ⟨_,_,_,rfl,rfl,Rd.whole (ins_same _ _ _)⟩ ?_ fun v O4 hO4 hfr=>?_
        · have:=h4.1
          simp[intsF] at this ⊢
          omega
        conv=>whnf
        have s5:=sub_ins H3 (.cells ⟨[.slice rb (intsL ll[i]).length rc]⟩ 31 (0,0)) hb2
        refine⟨(i+1,ins H3 b2 (.cells ⟨[.slice rb (intsL ll[i]).length rc]⟩ 31 (0,0)),v,O4),⟨hi,h2.trans (k2.trans (rp.sub.trans s5)),us++[.slice rb (intsL ll[i]).length rc],?_,?_⟩,by dsimp only;omega,?_⟩
        · show OwnS O4 1 31 v _
          rw[List.map_append]
          exact hO4
        · dsimp only
          rw[List.take_succ_eq_append_getElem hi]
          unfold intsF
          rw[List.map_append]
          exact hr3.keep fun n cs hn=>newH_up s5 _ _ hn
        · conv=>whnf
          refine⟨rfl,rfl,?_⟩
          conv=>whnf
          repeat (refine⟨rfl,?_⟩;conv=>whnf)
          refine⟨by show En.v (.int .i64 (IntKind.i64.wrap (i+1)))=_;rw[wrap_id (by omega) (by omega)];rfl,?_⟩
          conv=>whnf
          repeat (refine⟨rfl,?_⟩;conv=>whnf)
          exact trivial
    · conv=>whnf
      have hi:ll.length≤i:=by simpa using h
      rw[List.take_of_length_le hi] at h4
      exact⟨us,h3,h4⟩
theorem jInts (ll : List (List Int)) (hlen:ll.length≤100000) (hrow:∀ l∈ll,l.length≤100000) (H:PH) (v:Value) (hv:IntssH H v ll) :
    Cl Tryz.prog 10 [v] H emp fun r _ M'=>∃ us,OwnS M' 1 31 r (us.map fun u=>[u])∧RowsS M' us (intsF ll):=
  (Cl.own (c64n ll hlen hrow H v hv)).mono fun r H2 M2 _ hq=>by
    obtain⟨rfl,H',M',⟨us,h1,h2⟩,_,_,h6,h7⟩:=hq
    refine⟨us,OwnS.keep h1 fun n cs hn=>h6 _ _ hn,h2.keep fun n cs hn=>?_⟩
    unfold newH at hn
    cases e:H2 n with
    | some _=>rw[e] at hn;cases hn
    | none=>rw[e] at hn;exact h7 n _ e hn
end Go.Proofs.YtgbhgfdgifkdhaaGreat

namespace Go.Proofs.YtgbhgfdgifkdhaaGreat
open Go.Proofs.YtgbhgfdgifkdhaaGreat.X Go.Proofs.YtgbhgfdgifkdhaaGreat.X.PH
set_option maxRecDepth 100000
abbrev Vec : Type:=List (P4 × Int)
theorem OwnA.up {O O' : PH} {sz:Nat} {t:TypeId} {v:Value} {xs:List (List Value)} {ob:Option Nat} (h:OwnA O sz t v xs ob) (hs:Sub O O'):OwnA O' sz t v xs ob:=h.keep (oc:=none) (fun n o hn _=>hs n o hn) (Ap.none_l _)
def VecA (O : PH) (v:Value) (l:Vec) (ob:Option Nat):Prop:=OwnA O 5 33 v (l.map cellsOf) ob
theorem VecA.num {O : PH} {v:Value} {l:Vec} {ob:Option Nat} (h:VecA O v l ob):NumO O v l:=OwnA.own h
theorem VecA.sl {O : PH} {v:Value} {l:Vec} {ob:Option Nat} (h:VecA O v l ob):∃ base cap,v=.slice base l.length cap:=by
  obtain⟨b,c,e⟩:=OwnA.sl h
  rw[List.length_map] at e
  exact⟨b,c,e⟩
structure RowsA (O : PH) (b0:Nat) (rvs:List Value) (rows:Mx) (obs:List (Option Nat)):Prop where
  main:O b0=some (.cells ⟨rvs⟩ 31 (0,0))
  l1:rvs.length=rows.length
  l2:obs.length=rows.length
  row:∀ (i:Nat) v r ob,rvs[i]?=some v→rows[i]?=some r→obs[i]?=some ob→VecA O v r ob
  ap:∀ (i j:Nat) a b,obs[i]?=some a→obs[j]?=some b→i ≠ j→Ap a b
  ne:∀ (i:Nat) a,obs[i]?=some a→a ≠ some b0
theorem RowsA.start {O : PH} {b0 s:Nat} (h:O b0=some (.cells ⟨List.replicate s (.slice none 0 0)⟩ 31 (0,0))):RowsA O b0 (List.replicate s (.slice none 0 0)) (List.replicate s []) (List.replicate s none):=by
  refine⟨h,by simp,by simp,fun i v r ob h1 h2 h3=>?_,fun i j a b h1 h2 _=>?_,fun i a h1=>?_⟩
  · rw[List.getElem?_replicate] at h1 h2 h3
    split at h1
    · rename_i hi
      rw[if_pos hi] at h2 h3
      cases h1;cases h2;cases h3
      exact OwnA.nil _ _ _
    · cases h1
  · rw[List.getElem?_replicate] at h1
    split at h1
    · cases h1;exact Ap.none_l _
    · cases h1
  · rw[List.getElem?_replicate] at h1
    split at h1
    · cases h1;simp
    · cases h1
theorem RowsA.up {O O' : PH} {b0:Nat} {rvs:List Value} {rows:Mx} {obs:List (Option Nat)} (h:RowsA O b0 rvs rows obs) (hs:Sub O O'):RowsA O' b0 rvs rows obs:=
  ⟨hs _ _ h.main,h.l1,h.l2,fun i v r ob a b c=>OwnA.up (h.row i v r ob a b c) hs,h.ap,h.ne⟩
theorem RowsA.app {O O4 O' : PH} {b0:Nat} {rvs X:List Value} {rows:Mx} {obs:List (Option Nat)} (h:RowsA O b0 rvs rows obs) {j bx:Nat} {ob:Option Nat} {r:Vec} {x:P4 × Int} {v2:Value}
    (hr:rows[j]?=some r) (hob:obs[j]?=some ob) (h4:VecA O4 v2 (r++[x]) (some bx)) (hf:ob=some bx∨O bx=none) (hk:Keeps O O4 ob) (hX:X=rvs.set j v2) (hO':O'=ins O4 b0 (.cells ⟨X⟩ 31 (0,0))) :
    RowsA O' b0 (rvs.set j v2) (rows.set j (r++[x])) (obs.set j (some bx)):=by
  subst hX hO'
  have hj:j < rows.length:=(List.getElem?_eq_some_iff.1 hr).1
  have hm4:O4 b0=some (.cells ⟨rvs⟩ 31 (0,0)):=hk _ _ h.main (h.ne j ob hob)
  have hbx:bx ≠ b0:=fun e=>by
    rcases hf with hf | hf
    · exact h.ne j ob hob (by rw[hf,e])
    · rw[e,h.main] at hf;cases hf
  have kI:Keeps O4 (ins O4 b0 (.cells ⟨rvs.set j v2⟩ 31 (0,0))) (some b0):=fun n o hn hne=>(ins_ne _ _ fun e=>hne (by rw[e])).trans hn
  have apn:∀ (i:Nat) a,obs[i]?=some a→i ≠ j→Ap (some bx) a:=fun i a hi hij=>by
    have hij2:=h.ap j i ob a hob hi (Ne.symm hij)
    have hil:i < rows.length:=by rw[← h.l2];exact (List.getElem?_eq_some_iff.1 hi).1
    exact Ap.fresh (h.row i _ _ a (List.getElem?_eq_getElem (by rw[h.l1];exact hil)) (List.getElem?_eq_getElem hil) hi) hij2 hf
  refine⟨ins_same _ _ _,by simp[h.l1],by simp[h.l2],fun i v r' ob' h1 h2 h3=>?_,fun i k a b h1 h2 hik=>?_,fun i a h1=>?_⟩
  · by_cases hij:j=i
    · subst hij
      rw[List.getElem?_set_self (by rw[h.l1];exact hj)] at h1
      rw[List.getElem?_set_self hj] at h2
      rw[List.getElem?_set_self (by rw[h.l2];exact hj)] at h3
      cases h1;cases h2;cases h3
      exact OwnA.keep h4 kI fun n hn hne=>by cases hn;cases hne;exact hbx rfl
    · rw[List.getElem?_set_ne hij] at h1 h2 h3
      have hv:=h.row i v r' ob' h1 h2 h3
      refine OwnA.keep (OwnA.keep hv hk (h.ap j i ob ob' hob h3 hij)) kI fun n hn hne=>?_
      cases hn
      exact h.ne i ob' h3 hne
  · by_cases hij:j=i
    · subst hij
      rw[List.getElem?_set_self (by rw[h.l2];exact hj)] at h1
      rw[List.getElem?_set_ne hik] at h2
      cases h1
      exact apn k b h2 (Ne.symm hik)
    · rw[List.getElem?_set_ne hij] at h1
      by_cases hkj:j=k
      · subst hkj
        rw[List.getElem?_set_self (by rw[h.l2];exact hj)] at h2
        cases h2
        exact (apn i a h1 (Ne.symm hij)).symm
      · rw[List.getElem?_set_ne hkj] at h2
        exact h.ap i k a b h1 h2 hik
  · by_cases hij:j=i
    · subst hij
      rw[List.getElem?_set_self (by rw[h.l2];exact hj)] at h1
      cases h1
      intro e
      cases e
      exact hbx rfl
    · rw[List.getElem?_set_ne hij] at h1
      exact h.ne i a h1
theorem RowsA.mat {H O : PH} {b0:Nat} {rvs:List Value} {rows:Mx} {obs:List (Option Nat)} (h:RowsA O b0 rvs rows obs) (hd:Dis H O) {n:Nat} (hn:n=rows.length):MatH (un H O) (.slice (some ⟨b0,0,none⟩) n n) rows:=by
  subst hn
  have hm:un H O b0=some (.cells ⟨rvs⟩ 31 (0,0)):=by
    unfold un
    rw[(hd b0).resolve_right (by rw[h.main];simp)]
    exact h.main
  refine⟨rvs,h.l1,⟨_,_,rfl,.inr ⟨b0,0,_,_,_,rfl,hm,by simp⟩⟩,fun i r u hr hu=>?_⟩
  have hi:i < rows.length:=(List.getElem?_eq_some_iff.1 hr).1
  exact NumO.share (h.row i u r _ hu hr (List.getElem?_eq_getElem (by rw[h.l2];exact hi))).num hd
theorem set_take_drop {α : Type} (l:List α) (j:Nat) (x:α) (hj:j < l.length):l.take (0+j*1)++[x]++l.drop (0+j*1+1)=l.set j x:=by
  rw[Nat.zero_add,Nat.mul_one,List.set_eq_take_append_cons_drop,if_pos hj]
  simp
theorem drop_take_one {α : Type} (l:List α) (j:Nat) (hj:j < l.length):(l.drop (0+j*1)).take 1=[l[j]]:=by
  rw[Nat.zero_add,Nat.mul_one,List.drop_eq_getElem_cons hj]
  rfl
end Go.Proofs.YtgbhgfdgifkdhaaGreat
