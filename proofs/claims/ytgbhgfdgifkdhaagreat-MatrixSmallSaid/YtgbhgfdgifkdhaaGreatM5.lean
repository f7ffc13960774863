/- A logic for code of the model, proved sound, and what functions do that the laws on matrices come to; nothing is asked. Part 5. -/
import Derived.Test.YtgbhgfdgifkdhaaGreatM4

set_option linter.unusedVariables false
set_option linter.unusedSimpArgs false
set_option linter.unnecessarySimpa false

namespace Go.Proofs.YtgbhgfdgifkdhaaGreat
open Go.Proofs.YtgbhgfdgifkdhaaGreat.X Go.Proofs.YtgbhgfdgifkdhaaGreat.X.PH
set_option maxRecDepth 100000
theorem isZero_iff {p : P4}:p.isZero=true ↔ p.a=0∧p.b=0∧p.c=0∧p.d=0:=by
  unfold P4.isZero
  simp
theorem halved_zero {p : P4} (h:p.within 1073741824) (he:evenR p=true) (hz:(halvedR p).isZero=true):p.isZero=true:=by
  obtain⟨h1,h2,h3,h4⟩:=h
  obtain⟨e1,e2⟩:=evenR_iff.1 he
  have w:∀ x:Int,-4294967296≤x→x≤4294967296→wr x=x:=fun x a b=>wrap_id (by omega) (by omega)
  rw[isZero_iff] at hz ⊢
  unfold halvedR at hz
  simp only[shr1_div,low_mod] at hz
  rw[w (p.b / 2 - p.d / 2) (by omega) (by omega),w (p.a / 2+p.c / 2) (by omega) (by omega),w (p.b / 2+p.d / 2) (by omega) (by omega),w (p.c / 2 - p.a / 2) (by omega) (by omega),w _ (by omega) (by omega),w _ (by omega) (by omega)] at hz
  omega
theorem lowerR_end : ∀ (k:Nat) (p:P4),p.within 1073741824→p.isZero=false→((lowerR k p).2=0∨evenR (lowerR k p).1=false)∧(lowerR k p).1.isZero=false∧(lowerR k p).1.within 1073741824∧(lowerR k p).2≤k
  | 0,p,h,hz=>⟨.inl rfl,hz,h,Nat.le_refl _⟩
  | k+1,p,h,hz=>by
    unfold lowerR
    cases e:evenR p with
    | false=>exact⟨.inr (by simpa using e),by simpa using hz,by simpa using h,by simp⟩
    | true=>
      obtain⟨h1,h2⟩:=half_eq h e
      rw[h1] at h2
      have hz':(halvedR p).isZero=false:=by
        cases e':(halvedR p).isZero with
        | false=>rfl
        | true=>rw[halved_zero h e e'] at hz;cases hz
      obtain⟨a,b,c,d⟩:=lowerR_end k (halvedR p) h2 hz'
      simp only[if_true]
      exact⟨a,b,c,by omega⟩
theorem lowerR_stop {j : Nat} {q:P4} (h:j=0∨evenR q=false):lowerR j q=(q,j):=by
  cases j with
  | zero=>rfl
  | succ j=>
    have he:evenR q=false:=by
      rcases h with h | h
      · cases h
      · exact h
    unfold lowerR
    rw[he]
    rfl
theorem formR_right {p : P4} {k:Int} (h:checkF p k=0):checkF (formR p k).1 (formR p k).2=0∧formR (formR p k).1 (formR p k).2=formR p k:=by
  obtain⟨k1,k2,hp⟩:=checkF_range h
  have hw:=(all_iff (by decide) (by decide)).1 hp
  have mk:∀ (q:P4) (j:Int),0≤j→j≤60→q.within 1073741824→checkF q j=0:=fun q j a b c=>by
    unfold checkF
    rw[(all_iff (by decide) (by decide)).2 c]
    simp
    omega
  cases hz:p.isZero with
  | true=>
    have e:formR p k=(P4.zero,0):=by unfold formR;rw[hz];rfl
    rw[e]
    exact⟨by kernel_rfl,by kernel_rfl⟩
  | false=>
    by_cases h0:0 < k
    · have e:formR p k=((lowerR k.toNat p).1,((lowerR k.toNat p).2:Int)):=by
        unfold formR;rw[hz,if_neg (by simp),if_pos h0]
      obtain⟨a,b,c,d⟩:=lowerR_end k.toNat p hw hz
      rw[e]
      refine⟨mk _ _ (by dsimp only;omega) (by dsimp only;omega) c,?_⟩
      unfold formR
      dsimp only
      rw[b]
      simp only[Bool.false_eq_true,if_false]
      by_cases hj:(lowerR k.toNat p).2=0
      · rw[hj];rfl
      · rw[if_pos (by omega),Int.toNat_natCast,lowerR_stop a]
    · have e:formR p k=(p,k):=by
        unfold formR;rw[hz,if_neg (by simp),if_neg h0]
      rw[e]
      exact⟨h,e⟩
theorem formR_bounds (p : P4) {k:Int} (h1:-9223372036854775808≤k) (h2:k < 9223372036854775808):-9223372036854775808≤(formR p k).2∧(formR p k).2 < 9223372036854775808:=by
  have hl:∀ (n:Nat) (p:P4),(lowerR n p).2≤n:=by
    intro n
    induction n with
    | zero=>intro p;exact Nat.le_refl _
    | succ n ih=>
      intro p
      unfold lowerR
      split
      · have:=ih (halvedR p);omega
      · exact Nat.le_refl _
  unfold formR
  split
  · simp
  · split
    · have:=hl k.toNat p
      dsimp only
      omega
    · exact⟨h1,h2⟩
theorem MulR_bounds (x y : P4 × Int):-9223372036854775808≤(MulR x y).1.2∧(MulR x y).1.2 < 9223372036854775808:=by
  unfold MulR
  split
  · simp
  · unfold fitsR
    split
    · simp
    · exact formR_bounds _ (wr_bounds _).1 (wr_bounds _).2
theorem errs_same (l : List (P4 × Int)):errsR l=errsF l:=by
  unfold errsR errsF
  simp only[checkF_checkR]
theorem rot {k : Nat} (hk:k < 8) {q:P4} (h:q.within 1073741824):timesP (omegaP k) q=productR (omegaP k) q∧(productR (omegaP k) q).within 1073741824:=by
  obtain⟨⟨a,b,c,d⟩⟩:Nonempty ((-1073741824≤q.a∧q.a≤1073741824)∧(-1073741824≤q.b∧q.b≤1073741824)∧(-1073741824≤q.c∧q.c≤1073741824)∧(-1073741824≤q.d∧q.d≤1073741824)):=⟨h⟩
  have w:∀ x:Int,-4294967296≤x→x≤4294967296→wr x=x:=fun x a b=>wrap_id (by omega) (by omega)
  have w0:wr 0=0:=w 0 (by omega) (by omega)
  have wa:=w q.a (by omega) (by omega)
  have wb:=w q.b (by omega) (by omega)
  have wc:=w q.c (by omega) (by omega)
  have wd:=w q.d (by omega) (by omega)
  have na:=w (-q.a) (by omega) (by omega)
  have nb:=w (-q.b) (by omega) (by omega)
  have nc:=w (-q.c) (by omega) (by omega)
  have nd:=w (-q.d) (by omega) (by omega)
  obtain rfl | rfl | rfl | rfl | rfl | rfl | rfl | rfl:k=0∨k=1∨k=2∨k=3∨k=4∨k=5∨k=6∨k=7:=by omega
  all_goals
    unfold timesP productR omegaP P4.within
    simp[w0,wa,wb,wc,wd,na,nb,nc,nd,Int.neg_mul]
    try omega
theorem Mul_same {k : Nat} (hk:k < 8) {y:P4 × Int} (hy:checkF y.1 y.2=0):MulF (OmegaF k) y=MulR (OmegaF k) y∧formR (MulR (OmegaF k) y).1.1 (MulR (OmegaF k) y).1.2=(MulR (OmegaF k) y).1:=by
  obtain⟨k1,k2,hp⟩:=checkF_range hy
  have hw:=(all_iff (by decide) (by decide)).1 hp
  have eo:OmegaF k=(omegaP k,0):=by
    unfold OmegaF
    rw[show ((k:Int) % 8).toNat=k by omega]
  have ho:checkF (omegaP k) 0=0:=by
    obtain rfl | rfl | rfl | rfl | rfl | rfl | rfl | rfl:k=0∨k=1∨k=2∨k=3∨k=4∨k=5∨k=6∨k=7:=by omega
    all_goals rfl
  have hc:checks2 (OmegaF k) y=0:=by
    rw[eo]
    unfold checks2 errsF
    simp only[List.map_cons,List.map_nil,firstErr,ho,hy,if_true]
  have hr:errsR [OmegaF k,y]=0:=by rw[errs_same];exact hc
  obtain⟨r1,r2⟩:=rot hk hw
  have hk':wr ((OmegaF k).2+y.2)=y.2:=by
    rw[eo]
    dsimp only
    rw[Int.zero_add]
    exact wrap_id (by omega) (by omega)
  have hcp:checkF (productR (omegaP k) y.1) y.2=0:=by
    unfold checkF
    rw[(all_iff (by decide) (by decide)).2 r2]
    simp
    omega
  obtain⟨f1,f2⟩:=formR_right hcp
  have e1:MulF (OmegaF k) y=(formR (productR (omegaP k) y.1) y.2,0):=by
    unfold MulF
    rw[if_pos hc,hk',eo]
    dsimp only
    rw[r1,least_eq hcp]
  have e2:MulR (OmegaF k) y=(formR (productR (omegaP k) y.1) y.2,0):=by
    unfold MulR
    rw[if_neg (by rw[hr];simp),hk',eo]
    unfold fitsR
    rw[if_neg]
    rw[← checkF_checkR,f1]
    simp
  rw[e1,e2]
  exact⟨rfl,f2⟩
theorem entry_right {m : List (List (P4 × Int))} (h:checkMF m=0) {i k:Nat} (hi:i < m.length) (hk:k < wideM m):checkF (entry m i k).1 (entry m i k).2=0:=by
  have rm:=right_of h
  have hr:=rm.row _ (List.getElem_mem hi)
  rw[checkMF_checkMR] at h
  obtain⟨_,_,_,z4⟩:=checkMR_zero h
  rw[entry_get hi (by omega),checkF_checkR]
  exact z4 _ (List.getElem_mem hi) _ (List.getElem_mem _)
theorem all_congr {n : Nat} {p q:Nat→Bool} (h:∀ t,t < n→p t=q t):(List.range n).all p=(List.range n).all q:=by
  rw[Bool.eq_iff_iff,List.all_eq_true,List.all_eq_true]
  constructor
  · intro hp t ht;rw[← h t (List.mem_range.1 ht)];exact hp t ht
  · intro hp t ht;rw[h t (List.mem_range.1 ht)];exact hp t ht
theorem same_eq {m n : List (List (P4 × Int))} (he:errsM [m,n]=0):sameF m n=equalR m n:=by
  have hz:=firstErr_zero he
  have hm:checkMF m=0:=hz _ (by simp)
  have hn:checkMF n=0:=hz _ (by simp)
  unfold sameF equalR
  cases ha:alikeF m n with
  | false=>rfl
  | true=>
    obtain⟨e1,e2⟩:=alike_iff ha
    rw[Bool.true_and,Bool.true_and]
    apply all_congr
    intro t ht
    obtain⟨g1,g2,_⟩:=placesN_uniform ht
    unfold samePl eqAt
    rw[LeastF_eq (entry_right hm g1 g2),LeastF_eq (entry_right hn (by omega) (by omega))]
theorem phase_eq {m n : List (List (P4 × Int))}:PhaseF m n=PhaseR m n:=by
  unfold PhaseF PhaseR
  by_cases he:errsM [m,n] ≠ 0
  · rw[if_pos he,if_pos he]
  · rw[if_neg he,if_neg he]
    have he:errsM [m,n]=0:=by simpa using he
    have hz:=firstErr_zero he
    have hm:checkMF m=0:=hz _ (by simp)
    have hn:checkMF n=0:=hz _ (by simp)
    cases ha:alikeF m n with
    | false=>rfl
    | true=>
      obtain⟨e1,e2⟩:=alike_iff ha
      have:∀ k,k < 8→allPh m n k=allPhR m n k:=by
        intro k hk
        unfold allPh allPhR
        apply all_congr
        intro t ht
        obtain⟨g1,g2,_⟩:=placesN_uniform ht
        obtain⟨f1,f2⟩:=Mul_same hk (entry_right hn (i:=t / wideM m) (k:=t % wideM m) (by omega) (by omega))
        unfold samePh phAt
        rw[LeastF_eq (entry_right hm g1 g2),f1,f2]
      have hf:(List.range 8).find? (allPh m n)=(List.range 8).find? (allPhR m n):=by
        have key:∀ l:List Nat,(∀ k∈l,k < 8)→l.find? (allPh m n)=l.find? (allPhR m n):=by
          intro l
          induction l with
          | nil=>intro _;rfl
          | cons k l ih=>
            intro hl
            rw[List.find?_cons,List.find?_cons,this k (hl k (by simp)),ih fun j hj=>hl j (by simp[hj])]
        exact key _ fun k hk=>List.mem_range.1 hk
      rw[hf]<;>rfl
end Go.Proofs.YtgbhgfdgifkdhaaGreat

namespace Go.Proofs.YtgbhgfdgifkdhaaGreat
open Go.Proofs.YtgbhgfdgifkdhaaGreat.X Go.Proofs.YtgbhgfdgifkdhaaGreat.X.PH
set_option maxRecDepth 100000
theorem c5 (m n : List (List (P4 × Int))) (hlm:m.length < 9223372036854775808) (hln:n.length < 9223372036854775808) (H:PH) (u v:Value) (hu:MatH H u m) (hv:MatH H v n) :
    Cl Tryz.prog 48 [u,v] H emp fun r _ _=>r=.bool true:=by
  obtain⟨base,cap,rfl⟩:=hu.sl
  obtain⟨base',cap',rfl⟩:=hv.sl
  refine Cl_of (pol:=fun | 17=>.imm | _=>.loc) Γok Tryz.func48 (by kernel_rfl) rfl ?_
  conv=>whnf
  intro b hb _
  conv=>whnf
  have s1:=sub_ins H (.cells ⟨[.slice base m.length cap,.slice base' n.length cap']⟩ 23 (0,0)) hb
  refine (c13 [m,n] (by simp) (by simp;omega) _ _ (pair_mats (ins_same _ _ _) (hu.up s1) (hv.up s1))).val fun H1 s2=>?_
  conv=>whnf
  refine if_intro (fun hg=>?_) (fun hg=>?_)
  · conv=>whnf
    refine (c14 _).val fun H2 s3=>?_
    conv=>whnf
  have hle:=big_le hg
  obtain⟨hm8,hmr⟩:=hle m (by simp)
  obtain⟨hn8,hnr⟩:=hle n (by simp)
  have hu1:=(hu.up s1).up s2
  have hv1:=(hv.up s1).up s2
  conv=>whnf
  refine (c15' m _ _ hu1 (by omega) (fun r hr=>by have:=hmr r hr;omega)).use fun x H2 s3 hx=>?_
  obtain⟨_,hx⟩:=hx
  conv=>whnf
  refine (c15' n _ _ (hv1.up s3) (by omega) (fun r hr=>by have:=hnr r hr;omega)).use fun y H3 s4 hy=>?_
  obtain⟨_,hy⟩:=hy
  conv=>whnf
  have hu3:=(hu1.up s3).up s4
  have hv3:=(hv1.up s3).up s4
  have hx3:=hx.up s4
  refine (c31 m n _ _ _ hu3 hv3).val fun H4 s5=>?_
  conv=>whnf
  refine (c32 m n (fun k x _=>MulR_bounds _ _) _ _ _ (hu3.up s5) (hv3.up s5)).val fun H5 s6=>?_
  conv=>whnf
  have ss:=s5.trans s6
  have hS:(if errsM [m,n]=0 then sameF m n else false)=(if errsM [m,n]=0 then equalR m n else false):=by
    by_cases he:errsM [m,n]=0
    · rw[if_pos he,if_pos he,same_eq he]
    · rw[if_neg he,if_neg he]
  have h33:=c33 m n (by omega) (by omega) _ _ _ (hx3.up ss) (hy.up ss)
  rw[hS] at h33
  refine h33.val fun H6 s7=>?_
  conv=>whnf
  have h34:=c34 m n (by omega) (by omega) _ _ _ ((hx3.up ss).up s7) ((hy.up ss).up s7)
  rw[phase_eq] at h34
  refine h34.val fun H7 s8=>?_
  conv=>whnf
  generalize (if errsM [m,n]=0 then equalR m n else false)=q
  generalize errsM [m,n]=e
  generalize (PhaseR m n).1=p1
  generalize (PhaseR m n).2=p2
  have sss:=ss.trans (s7.trans s8)
  have bq:(q == q)=true:=beq_self_eq_true q
  repeat ((first | rw[beq_self_eq_true e] | rw[beq_self_eq_true p2] | rw[bq] | rw[beq_self_eq_true p1]);conv=>whnf)
  have hmr':∀ r∈m,r.length < 9223372036854775808:=fun r hr=>by have:=hmr r hr;omega
  have hnr':∀ r∈n,r.length < 9223372036854775808:=fun r hr=>by have:=hnr r hr;omega
  refine (c23 m m _ _ _ (hx3.up sss) (hu3.up sss) (by omega) hmr').val fun H8 s9=>?_
  rw[eqM_refl]
  conv=>whnf
  refine (c23 n n _ _ _ ((hy.up sss).up s9) ((hv3.up sss).up s9) (by omega) hnr').val fun H9 s10=>?_
  rw[eqM_refl]
  conv=>whnf
  refine (c14 _).val fun H10 s11=>?_
  conv=>whnf
end Go.Proofs.YtgbhgfdgifkdhaaGreat

namespace Go.Proofs.YtgbhgfdgifkdhaaGreat
open Go.Proofs.YtgbhgfdgifkdhaaGreat.X Go.Proofs.YtgbhgfdgifkdhaaGreat.X.PH
set_option maxRecDepth 100000
theorem c163 (p : P4) (k:Int) (H:PH):Cl Tryz.prog 209 [p.num k] H emp fun v _ _=>v=p.twice.num k:=by
  refine Cl_of (pol:=polL) Γok Tryz.func209 (by kernel_rfl) rfl ?_
  conv=>whnf
  repeat (intro _;conv=>whnf)
  rfl
theorem c169 (p : P4) (k:Int) (H:PH):Cl Tryz.prog 216 [p.num k] H emp fun v _ _=>v=(conjP p).num k:=by
  refine Cl_of (pol:=polL) Γok Tryz.func216 (by kernel_rfl) rfl ?_
  conv=>whnf
  repeat (intro _;conv=>whnf)
  rfl
def ConjR (x : P4 × Int):(P4 × Int) × Int:=if checkR x.1 x.2 ≠ 0 then ((P4.zero,0),checkR x.1 x.2) else (formR (conjP x.1) x.2,0)
theorem c116 (x : P4 × Int) (H:PH):Cl Tryz.prog 138 [nv x] H emp fun v _ _=>v=ne (ConjR x):=by
  refine Cl_of (pol:=polL) Γok Tryz.func138 (by kernel_rfl) rfl ?_
  conv=>whnf
  repeat (intro _;conv=>whnf)
  refine (c108 x.1 x.2 _).val fun H1 s1=>?_
  conv=>whnf
  unfold ConjR
  refine if_intro (fun he=>?_) (fun he=>?_)
  · conv=>whnf
    rw[if_pos (by simpa using he)]
    rfl
  · have h0:checkR x.1 x.2=0:=by simpa using he
    have:=checkR_zero h0
    rw[if_neg (by simpa using he)]
    conv=>whnf
    refine (c169 x.1 x.2 _).val fun H2 s2=>?_
    conv=>whnf
    refine (c72 (conjP x.1) x.2 (by omega) (by omega) _).val fun H3 s3=>?_
    conv=>whnf
    rfl
def AddR (x y : P4 × Int):(P4 × Int) × Int:=
  if errsR [x,y] ≠ 0 then ((P4.zero,0),errsR [x,y]) else
    fitsR (opP (fun a b=>wr (a+b)) (raiseP (maxI (formR x.1 x.2).2 (formR y.1 y.2).2 - (formR x.1 x.2).2).toNat (formR x.1 x.2).1) (raiseP (maxI (formR x.1 x.2).2 (formR y.1 y.2).2 - (formR y.1 y.2).2).toNat (formR y.1 y.2).1)) (maxI (formR x.1 x.2).2 (formR y.1 y.2).2)
theorem c105 (x y : P4 × Int) (H:PH):Cl Tryz.prog 126 [nv x,nv y] H emp fun v _ _=>v=ne (AddR x y):=by
  refine Cl_of (pol:=fun | 9=>.imm | _=>.loc) Γok Tryz.func126 (by kernel_rfl) rfl ?_
  conv=>whnf
  iterate 3 (intro _;conv=>whnf)
  intro b hb hO
  conv=>whnf
  refine (c94 [x,y] _ _ (pair_num (ins_same _ _ _)) (by simp)).val fun H1 hs1=>?_
  conv=>whnf
  unfold AddR
  refine if_intro (fun he=>?_) (fun he=>?_)
  · conv=>whnf
    rw[if_pos (show errsR [x,y] ≠ 0 by simpa using he)]
    rfl
  have he:errsR [x,y]=0:=by simpa using he
  rw[if_neg (show ¬ errsR [x,y] ≠ 0 by simpa using he)]
  have hz:=firstErr_zero he
  have hx:checkF x.1 x.2=0:=by rw[checkF_checkR];exact hz _ (by simp)
  have hy:checkF y.1 y.2=0:=by rw[checkF_checkR];exact hz _ (by simp)
  have hxk:=checkF_range hx
  have hyk:=checkF_range hy
  have hfx:=checkF_range (formR_right hx).1
  have hfy:=checkF_range (formR_right hy).1
  conv=>whnf
  refine W_draw (pol:=polL) Γok mixes [(0,.pendO),(2,.pend),(1,.lock),(3,.lock),(4,.lock),(5,.lock)] 67 (by kernel_rfl) rfl ?_
  conv=>whnf
  refine (c72 x.1 x.2 (by omega) (by omega) _).val fun H2 s2=>?_
  conv=>whnf
  refine (c72 y.1 y.2 (by omega) (by omega) _).val fun H3 s3=>?_
  conv=>whnf
  generalize formR x.1 x.2=fx at hfx ⊢
  generalize formR y.1 y.2=fy at hfy ⊢
  refine W_loopX (pol:=polL) Γok (Nat × PH) (fun i=>(i.1:Int)≤max 0 (fy.2 - fx.2)) (fun i=>(fy.2 - fx.2).toNat - i.1) (fun e i=>e=.exit 0∧i.1=(fy.2 - fx.2).toNat) (fun _=>[]) (fun i=>[(0,cellsOf (raiseP i.1 fx.1,fx.2+i.1))]) (fun i=>i.2) (fun _=>emp) ⟨(0,H3),by dsimp only;omega,rfl,rfl,?_⟩ ?_ ?_
  · conv=>whnf
    repeat (refine⟨rfl,?_⟩;conv=>whnf)
    refine⟨by simp[cellsOf,raiseP],?_⟩
    conv=>whnf
    repeat (refine⟨rfl,?_⟩;conv=>whnf)
    trivial
  · rintro ⟨i,H4⟩ h1
    dsimp only at h1
    conv=>whnf
    refine if_intro (fun hc=>?_) (fun hc=>?_)
    · have hc':fx.2+(i:Int) < fy.2:=by simpa using hc
      conv=>whnf
      refine (c163 _ _ _).val fun H5 s5=>?_
      conv=>whnf
      refine⟨(i+1,H5),by dsimp only;omega,by dsimp only;omega,rfl,rfl,?_⟩
      conv=>whnf
      rw[wrap_id (by omega) (by omega)]
      repeat (refine⟨rfl,?_⟩;conv=>whnf)
      refine⟨by simp[cellsOf,raiseP];omega,?_⟩
      conv=>whnf
      repeat (refine⟨rfl,?_⟩;conv=>whnf)
      trivial
    · have hc':¬ fx.2+(i:Int) < fy.2:=by simpa using hc
      conv=>whnf
      refine .inr ⟨(i,H4),⟨rfl,by dsimp only;omega⟩,rfl,rfl,?_⟩
      conv=>whnf
      repeat (refine⟨rfl,?_⟩;conv=>whnf)
      trivial
  rintro e ⟨i,H4⟩ ⟨rfl,h1⟩
  dsimp only at h1
  conv=>whnf
  refine W_loopX (pol:=polL) Γok (Nat × PH) (fun k=>(k.1:Int)≤max 0 (fx.2+i - fy.2)) (fun k=>(fx.2+i - fy.2).toNat - k.1) (fun e k=>e=.exit 2∧k.1=(fx.2+i - fy.2).toNat) (fun _=>[]) (fun k=>[(1,cellsOf (raiseP k.1 fy.1,fy.2+k.1))]) (fun k=>k.2) (fun _=>emp) ⟨(0,H4),by dsimp only;omega,rfl,rfl,?_⟩ ?_ ?_
  · conv=>whnf
    repeat (refine⟨rfl,?_⟩;conv=>whnf)
    refine⟨by simp[cellsOf,raiseP],?_⟩
    conv=>whnf
    repeat (refine⟨rfl,?_⟩;conv=>whnf)
    trivial
  · rintro ⟨k,H5⟩ h2
    dsimp only at h2
    conv=>whnf
    refine if_intro (fun hc=>?_) (fun hc=>?_)
    · have hc':fy.2+(k:Int) < fx.2+i:=by simpa using hc
      conv=>whnf
      refine (c163 _ _ _).val fun H6 s6=>?_
      conv=>whnf
      refine⟨(k+1,H6),by dsimp only;omega,by dsimp only;omega,rfl,rfl,?_⟩
      conv=>whnf
      rw[wrap_id (by omega) (by omega)]
      repeat (refine⟨rfl,?_⟩;conv=>whnf)
      refine⟨by simp[cellsOf,raiseP];omega,?_⟩
      conv=>whnf
      repeat (refine⟨rfl,?_⟩;conv=>whnf)
      trivial
    · have hc':¬ fy.2+(k:Int) < fx.2+i:=by simpa using hc
      conv=>whnf
      refine .inr ⟨(k,H5),⟨rfl,by dsimp only;omega⟩,rfl,rfl,?_⟩
      conv=>whnf
      repeat (refine⟨rfl,?_⟩;conv=>whnf)
      trivial
  rintro e ⟨k,H5⟩ ⟨rfl,h2⟩
  dsimp only at h2
  conv=>whnf
  refine (c159 (opP (fun a b=>wr (a+b)) (raiseP i fx.1) (raiseP k fy.1)) (fx.2+i) (by omega) (by omega) _).val fun H6 s6=>?_
  conv=>whnf
  have e1:(maxI fx.2 fy.2 - fx.2).toNat=i:=by unfold maxI;split<;>omega
  have e2:(maxI fx.2 fy.2 - fy.2).toNat=k:=by unfold maxI;split<;>omega
  have e3:maxI fx.2 fy.2=fx.2+i:=by unfold maxI;split<;>omega
  rw[e1,e2,e3]
  rfl
end Go.Proofs.YtgbhgfdgifkdhaaGreat

namespace Go.Proofs.YtgbhgfdgifkdhaaGreat
open Go.Proofs.YtgbhgfdgifkdhaaGreat.X Go.Proofs.YtgbhgfdgifkdhaaGreat.X.PH
set_option maxRecDepth 100000
def VectorR (l : List (P4 × Int)):Int:=if l.length < 1∨64 < l.length then 2 else errsR l
theorem c115 (l : List (P4 × Int)) (H:PH) (v:Value) (hv:NumH H v l) (hlen:l.length < 1000000):Cl Tryz.prog 137 [v] H emp fun r _ _=>r=.int .i64 (VectorR l):=by
  obtain⟨base,cap,rfl,_⟩:=id hv
  refine Cl_of (pol:=polL) Γok Tryz.func137 (by kernel_rfl) rfl ?_
  conv=>whnf
  unfold VectorR
  refine if_intro (fun h=>?_) (fun h=>?_)
  · conv=>whnf
    rw [if_pos (.inl (by have:(l.length:Int) < 1:=by simpa using h
                         omega))]
  · conv=>whnf
    have h1:¬ (l.length:Int) < 1:=by simpa using h
    refine if_intro (fun h=>?_) (fun h=>?_)
    · conv=>whnf
      rw [if_pos (.inr (by have:(64:Int) < l.length:=by simpa using h
                           omega))]
    · conv=>whnf
      have h2:¬ (64:Int) < l.length:=by simpa using h
      rw[if_neg (by omega)]
      refine (c94 l _ _ hv (by omega)).val fun H1 s1=>?_
      conv=>whnf
def dotStepR (o z : P4 × Int) (first:Bool) (w:P4 × Int):(P4 × Int) × Int:=
  let m:=MulR z w
  let a:=if m.2=0 then (if first then m else AddR o m.1) else m
  if a.2=0 then (a.1,0) else ((P4.zero,0),a.2)
def dotR (x y : Nat→P4 × Int):Nat→(P4 × Int) × Int
  | 0=>((P4.zero,0),0)
  | i+1=>if (dotR x y i).2=0 then dotStepR (dotR x y i).1 (x i) (decide (i=0)) (y i) else dotR x y i
theorem dotR_stay {x y : Nat→P4 × Int} {i:Nat} (h:(dotR x y i).2 ≠ 0):∀ n,i≤n→dotR x y n=dotR x y i:=by
  intro n
  induction n with
  | zero=>intro hn;rw[Nat.le_zero.1 hn]
  | succ n ih=>
    intro hn
    rcases Nat.lt_or_ge n i with h' | h'
    · rw[show i=n+1 by omega]
    · have e:=ih h'
      show (if (dotR x y n).2=0 then _ else dotR x y n)=_
      rw[e,if_neg h]
theorem c106 (l k : List (P4 × Int)) (hl:l.length < 1000000) (hk:l.length≤k.length) (H:PH) (u v:Value) (hu:NumH H u l) (hv:NumH H v k):Cl Tryz.prog 127 [u,v] H emp fun r _ _=>r=ne (dotR (atL l) (atL k) l.length):=by
  obtain⟨base,cap,rfl,_⟩:=id hu
  obtain⟨base',cap',rfl,_⟩:=id hv
  refine Cl_of (pol:=polL) Γok Tryz.func127 (by kernel_rfl) rfl ?_
  conv=>whnf
  intro b6
  conv=>whnf
  intro b8
  conv=>whnf
  refine W_loop (pol:=polL) Γok (Nat × PH × (P4 × Int)) (fun i=>i.1≤l.length∧Sub H i.2.1∧dotR (atL l) (atL k) i.1=(i.2.2,0)) (fun i=>l.length - i.1) (fun i=>[(7,.v (.int .i64 i.1))]) (fun i=>[(1,cellsOf i.2.2)]) (fun i=>i.2.1) (fun _=>emp) ⟨(0,H,(P4.zero,0)),⟨by simp,Sub.refl _,rfl⟩,rfl,rfl,?_⟩ ?_
  · conv=>whnf
    repeat (refine⟨rfl,?_⟩;conv=>whnf)
    exact trivial
  · rintro ⟨i,H',o⟩ ⟨h1,h2,h3⟩
    dsimp only at h1 h2 h3
    conv=>whnf
    refine if_intro (fun hg=>?_) (fun hg=>?_)
    · have hi:i < l.length:=by simpa using hg
      have hi':i < k.length:=by omega
      obtain⟨_,b',off',rfl,hrd⟩:=(hu.up h2).rd (O:=emp) hi
      obtain⟨_,b'',off'',rfl,hrd'⟩:=(hv.up h2).rd (O:=emp) hi'
      conv=>whnf
      refine W_draw (pol:=polL) Γok mixes [(0,.pendO),(1,.pendO),(2,.pendO),(3,.pendO),(4,.pendO),(5,.pendO),(6,.pendO),(7,.pendO),(8,.lock),(9,.pendO),(10,.pendO),(11,.pendH),(12,.late),(13,.lock),(14,.pendO)] 48 (by kernel_rfl) rfl ?_
      conv=>whnf
      refine dec_intro (by omega) ?_
      conv=>whnf
      refine⟨_,hrd,?_⟩
      conv=>whnf
      refine dec_intro (by omega) ?_
      conv=>whnf
      refine⟨_,hrd',?_⟩
      conv=>whnf
      refine (c98 l[i] k[i] _).val fun H4 s4=>?_
      conv=>whnf
      intro b9
      conv=>whnf
      have hs:dotR (atL l) (atL k) (i+1)=dotStepR o l[i] (decide (i=0)) k[i]:=by
        show (if (dotR (atL l) (atL k) i).2=0 then _ else _)=_
        rw[h3,atL_get hi,atL_get hi'];rfl
      unfold dotStepR at hs
      dsimp only at hs
      have fin:∀ (a:P4 × Int) (H5:PH),Sub H4 H5→dotR (atL l) (atL k) (i+1)=(a,0)→i+1≤l.length∧Sub H H5∧dotR (atL l) (atL k) (i+1)=(a,0):=fun a H5 s5 h=>⟨hi,h2.trans (s4.trans s5),h⟩
      have bad:∀ e:Int,e ≠ 0→dotR (atL l) (atL k) (i+1)=((P4.zero,0),e)→ne ((P4.zero,0),e)=ne (dotR (atL l) (atL k) l.length):=fun e he h=>by
        rw[dotR_stay (i:=i+1) (by rw[h];exact he) l.length hi,h]
      refine if_intro (fun he=>?_) (fun he=>?_)
      · have he0:(MulR l[i] k[i]).2=0:=by simpa using he
        rw[if_pos he0] at hs
        conv=>whnf
        refine if_intro (fun hp=>?_) (fun hp=>?_)
        · have hp : i = 0 := by have:(i:Int)=0:=by simpa using hp
                                omega
          rw[show decide (i=0)=true by simp;omega] at hs
          simp only[if_true] at hs
          rw[if_pos he0] at hs
          conv=>whnf
          rw[he0]
          conv=>whnf
          refine⟨(i+1,H4,(MulR l[i] k[i]).1),fin _ _ (Sub.refl _) hs,by dsimp only;omega,?_⟩
          conv=>whnf
          refine⟨rfl,rfl,?_⟩
          conv=>whnf
          repeat (refine⟨rfl,?_⟩;conv=>whnf)
          refine⟨by show En.v (.int .i64 (IntKind.i64.wrap (i+1)))=_;rw[wrap_id (by omega) (by omega)];rfl,?_⟩
          conv=>whnf
          repeat (refine⟨rfl,?_⟩;conv=>whnf)
          exact trivial
        · have hp : ¬ i = 0 := by have:¬ (i:Int)=0:=by simpa using hp
                                  omega
          rw[show decide (i=0)=false by simp;omega] at hs
          conv=>whnf
          rw[he0]
          conv=>whnf
          refine (c105 o (MulR l[i] k[i]).1 _).val fun H5 s5=>?_
          conv=>whnf
          simp only[Bool.false_eq_true,if_false] at hs
          refine if_intro (fun ha=>?_) (fun ha=>?_)
          · have ha:(AddR o (MulR l[i] k[i]).1).2 ≠ 0:=by simpa using ha
            conv=>whnf
            rw[if_neg ha] at hs
            exact bad _ ha hs
          · have ha:(AddR o (MulR l[i] k[i]).1).2=0:=by simpa using ha
            rw[if_pos ha] at hs
            conv=>whnf
            refine⟨(i+1,H5,(AddR o (MulR l[i] k[i]).1).1),fin _ _ s5 hs,by dsimp only;omega,?_⟩
            conv=>whnf
            refine⟨rfl,rfl,?_⟩
            conv=>whnf
            repeat (refine⟨rfl,?_⟩;conv=>whnf)
            refine⟨by show En.v (.int .i64 (IntKind.i64.wrap (i+1)))=_;rw[wrap_id (by omega) (by omega)];rfl,?_⟩
            conv=>whnf
            repeat (refine⟨rfl,?_⟩;conv=>whnf)
            exact trivial
      · have he0:(MulR l[i] k[i]).2 ≠ 0:=by simpa using he
        rw[if_neg he0] at hs
        rw[if_neg he0] at hs
        conv=>whnf
        refine if_intro (fun ha=>?_) (fun ha=>?_)
        · exact absurd (by simpa using ha) he0
        conv=>whnf
        refine if_intro (fun ha=>?_) (fun ha=>?_)
        · conv=>whnf
          exact bad _ he0 hs
        · exact absurd (by simpa using ha) he0
    · have hi:i=l.length:=by simp at hg;omega
      conv=>whnf
      subst hi
      rw[h3]
      rfl
end Go.Proofs.YtgbhgfdgifkdhaaGreat

namespace Go.Proofs.YtgbhgfdgifkdhaaGreat
open Go.Proofs.YtgbhgfdgifkdhaaGreat.X Go.Proofs.YtgbhgfdgifkdhaaGreat.X.PH
set_option maxRecDepth 100000
def conjL (l : List (P4 × Int)):List (P4 × Int):=l.map fun x=>(ConjR x).1
def InnerR (u v : List (P4 × Int)):(P4 × Int) × Int:=
  if VectorR u ≠ 0 then ((P4.zero,0),VectorR u) else if VectorR v ≠ 0 then ((P4.zero,0),VectorR v) else
    if u.length ≠ v.length then ((P4.zero,0),7) else dotR (atL (conjL u)) (atL v) u.length
theorem VectorR_len {l : List (P4 × Int)} (h:VectorR l=0):1≤l.length∧l.length≤64:=by
  unfold VectorR at h
  split at h
  · cases h
  · omega
theorem c45 (l k : List (P4 × Int)) (hl:l.length < 1000000) (hk:k.length < 1000000) (H:PH) (u v:Value) (hu:NumH H u l) (hv:NumH H v k):Cl Tryz.prog 59 [u,v] H emp fun r _ _=>r=ne (InnerR l k):=by
  obtain⟨base,cap,rfl,_⟩:=id hu
  obtain⟨base',cap',rfl,_⟩:=id hv
  refine Cl_of (pol:=fun | 46=>.imm | _=>.loc) Γok Tryz.func59 (by kernel_rfl) rfl ?_
  conv=>whnf
  intro b4
  conv=>whnf
  unfold InnerR
  refine (c115 l _ _ hu hl).val fun H1 s1=>?_
  conv=>whnf
  refine if_intro (fun he=>?_) (fun he=>?_)
  · conv=>whnf
    rw[if_pos (show VectorR l ≠ 0 by simpa using he)]
    rfl
  have he0:VectorR l=0:=by simpa using he
  rw[if_neg (by rw[he0];simp)]
  conv=>whnf
  refine (c115 k _ _ (hv.up s1) hk).val fun H2 s2=>?_
  conv=>whnf
  refine if_intro (fun he=>?_) (fun he=>?_)
  · conv=>whnf
    rw[if_pos (show VectorR k ≠ 0 by simpa using he)]
    rfl
  have he1:VectorR k=0:=by simpa using he
  rw[if_neg (by rw[he1];simp)]
  conv=>whnf
  refine if_intro (fun hn=>?_) (fun hn=>?_)
  · conv=>whnf
    rw[if_pos (show l.length ≠ k.length from fun e=>by rw[e] at hn;simp at hn)]
    rfl
  have hlk:l.length=k.length:=by
    have:(l.length:Int)=k.length:=by simpa using hn
    omega
  rw[if_neg (by omega)]
  have hl64:=VectorR_len he0
  conv=>whnf
  have s12:=s1.trans s2
  refine W_repart ?_
  refine W_loopX (pol:=fun | 46=>.imm | _=>.loc) Γok (Nat × PH × Value × PH) (fun i=>i.1≤l.length∧Sub H2 i.2.1∧NumO i.2.2.2 i.2.2.1 (conjL (l.take i.1))) (fun i=>l.length - i.1) (fun e i=>e=.exit 0∧Sub H2 i.2.1∧NumO i.2.2.2 i.2.2.1 (conjL l)) (fun i=>[(9,.v (.int .i64 i.1)),(8,.v i.2.2.1)]) (fun _=>[]) (fun i=>i.2.1) (fun i=>i.2.2.2) ⟨(0,H2,.slice none 0 0,emp),⟨by simp,Sub.refl _,?_⟩,rfl,rfl,?_⟩ ?_ ?_
  · exact⟨by simp[conjL],.inl ⟨rfl,by simp[conjL]⟩⟩
  · conv=>whnf
    repeat (refine⟨rfl,?_⟩;conv=>whnf)
    exact trivial
  · rintro ⟨i,H',out,O'⟩ ⟨h1,h2,h3⟩
    dsimp only at h1 h2 h3
    conv=>whnf
    refine if_intro (fun h=>?_) (fun h=>?_)
    · have hi:i < l.length:=by simpa using h
      obtain⟨_,b,off,rfl,hrd⟩:=((hu.up s12).up h2).rd (O:=O') hi
      conv=>whnf
      refine dec_intro (by simpa using hi) ?_
      conv=>whnf
      refine⟨_,hrd,?_⟩
      conv=>whnf
      refine (c116 l[i] _).val fun H3 hs=>?_
      conv=>whnf
      intro bx
      conv=>whnf
      intro b2 hb2 hO2
      conv=>whnf
      refine append_one (xs:=(conjL (l.take i)).map cellsOf) (y:=cellsOf (ConjR l[i]).1) h3 rfl rfl (cellsOf_one _) ⟨_,_,_,rfl,rfl,Rd.whole (ins_same _ _ _)⟩ ?_ fun v O2 hO2 hfr=>?_
      · have:(conjL (l.take i)).length≤l.length:=by simp[conjL];omega
        simp only[List.length_map]
        omega
      conv=>whnf
      refine⟨(i+1,ins H3 b2 (.cells ⟨cellsOf (ConjR l[i]).1⟩ 33 (0,0)),v,O2),⟨hi,(h2.trans hs).trans (sub_ins _ _ hb2),?_⟩,by dsimp only;omega,?_⟩
      · dsimp only
        rw[List.take_succ_eq_append_getElem hi]
        show OwnS O2 5 33 v ((conjL (l.take i++[l[i]])).map cellsOf)
        simp only[conjL,List.map_append,List.map_cons,List.map_nil] at hO2 ⊢
        exact hO2
      · conv=>whnf
        refine⟨rfl,rfl,?_⟩
        conv=>whnf
        repeat (refine⟨rfl,?_⟩;conv=>whnf)
        refine⟨by show En.v (.int .i64 (IntKind.i64.wrap (i+1)))=_;rw[wrap_id (by omega) (by omega)];rfl,?_⟩
        conv=>whnf
        repeat (refine⟨rfl,?_⟩;conv=>whnf)
        exact trivial
    · have hi:l.length≤i:=by simpa using h
      conv=>whnf
      rw[List.take_of_length_le hi] at h3
      refine .inr ⟨(i,H',out,O'),⟨rfl,h2,h3⟩,rfl,rfl,?_⟩
      conv=>whnf
      repeat (refine⟨rfl,?_⟩;conv=>whnf)
      exact trivial
  rintro e ⟨i,H',out,O'⟩ ⟨rfl,h2,h3⟩
  dsimp only at h2 h3
  refine .inr fun hd=>?_
  obtain⟨H3,O3,rp,hn3⟩:=NumO.pub hd h3
  refine⟨H3,O3,rp,?_⟩
  have s3:Sub H2 H3:=h2.trans rp.sub
  conv=>whnf
  have hcl:(conjL l).length=l.length:=by simp[conjL]
  have h106:=c106 (conjL l) k (by omega) (by omega) H3 _ _ hn3 ((hv.up s12).up s3)
  rw[hcl] at h106
  refine h106.val fun H4 s4=>?_
  conv=>whnf
  rfl
def applyG (f : List (P4 × Int)→(P4 × Int) × Int):List (List (P4 × Int))→List (P4 × Int) × Int
  | []=>([],0)
  | r::m=>if (f r).2 ≠ 0 then ([],(f r).2) else if (applyG f m).2 ≠ 0 then ([],(applyG f m).2) else ((f r).1::(applyG f m).1,0)
theorem applyG_ok {f : List (P4 × Int)→(P4 × Int) × Int} {m:List (List (P4 × Int))} (h:∀ r∈m,(f r).2=0):applyG f m=(m.map fun r=>(f r).1,0):=by
  induction m with
  | nil=>rfl
  | cons r m ih=>
    have h1:=h r (by simp)
    have h2:=ih fun r hr=>h r (by simp[hr])
    unfold applyG
    rw[h2,if_neg (by rw[h1];simp),if_neg (by simp)]
    rfl
theorem applyG_bad {f : List (P4 × Int)→(P4 × Int) × Int} {m:List (List (P4 × Int))} {i:Nat} (hi:i < m.length) (h:∀ r∈m.take i,(f r).2=0) (hb:(f m[i]).2 ≠ 0):applyG f m=([],(f m[i]).2):=by
  induction m generalizing i with
  | nil=>simp at hi
  | cons r m ih=>
    cases i with
    | zero=>
      unfold applyG
      rw[if_pos (by simpa using hb)]
      rfl
    | succ i=>
      have h1:=h r (by simp)
      have h2:=ih (i:=i) (by simpa using hi) (fun r hr=>h r (by simp[hr])) (by simpa using hb)
      unfold applyG
      rw[h2,if_neg (by rw[h1];simp)]
      dsimp only
      rw[if_pos (by simpa using hb)]
      rfl
theorem applyG_congr {f g : List (P4 × Int)→(P4 × Int) × Int} {m:List (List (P4 × Int))} (h:∀ r∈m,f r=g r):applyG f m=applyG g m:=by
  induction m with
  | nil=>rfl
  | cons r m ih=>
    unfold applyG
    rw[h r (by simp),ih fun r hr=>h r (by simp[hr])]
def ApplyR (m : List (List (P4 × Int))) (l:List (P4 × Int)):List (P4 × Int) × Int:=
  if checkMR m ≠ 0 then ([],checkMR m) else if VectorR l ≠ 0 then ([],VectorR l) else if wideM m ≠ l.length then ([],7) else applyG (fun r=>dotR (atL r) (atL l) r.length) m
theorem c44 (m : List (List (P4 × Int))) (l:List (P4 × Int)) (hl:l.length < 1000000) (H:PH) (u v:Value) (hu:MatH H u m) (hv:NumH H v l) :
    Cl Tryz.prog 58 [u,v] H emp fun r H' M'=>∃ x,r=.tuple #[x,.int .i64 (ApplyR m l).2]∧NumO M' x (ApplyR m l).1:=by
  obtain⟨base,cap,rfl⟩:=hu.sl
  obtain⟨base',cap',rfl,_⟩:=id hv
  refine Cl_of (pol:=fun | 49=>.imm | _=>.loc) Γok Tryz.func58 (by kernel_rfl) rfl ?_
  conv=>whnf
  have nil0:NumO emp (.slice none 0 0) []:=⟨by simp,.inl ⟨rfl,by simp⟩⟩
  unfold ApplyR
  refine (c30 m _ _ hu).val fun H1 s1=>?_
  conv=>whnf
  refine if_intro (fun he=>?_) (fun he=>?_)
  · conv=>whnf
    rw[if_pos (show checkMR m ≠ 0 by simpa using he)]
    exact⟨_,rfl,nil0⟩
  have he0:checkMR m=0:=by simpa using he
  rw[if_neg (by rw[he0];simp)]
  obtain⟨m1,m2,m3,m4⟩:=checkMR_zero he0
  conv=>whnf
  refine (c115 l _ _ (hv.up s1) hl).val fun H2 s2=>?_
  conv=>whnf
  refine if_intro (fun he=>?_) (fun he=>?_)
  · conv=>whnf
    rw[if_pos (show VectorR l ≠ 0 by simpa using he)]
    exact⟨_,rfl,nil0⟩
  have he1:VectorR l=0:=by simpa using he
  rw[if_neg (by rw[he1];simp)]
  have s12:=s1.trans s2
  conv=>whnf
  obtain⟨b,off,bb,cc,rfl,hrd,hn⟩:=(hu.up s12).rd (O:=emp) m1
  refine dec_intro (by omega) ?_
  conv=>whnf
  refine⟨_,hrd,?_⟩
  conv=>whnf
  refine if_intro (fun hn=>?_) (fun hn=>?_)
  · conv=>whnf
    rw[if_pos (show wideM m ≠ l.length from fun e=>by rw[wideM_get m1] at e;rw[e] at hn;simp at hn)]
    exact⟨_,rfl,nil0⟩
  have hlk:wideM m=l.length:=by
    have:((m[0]'m1).length:Int)=l.length:=by simpa using hn
    rw[wideM_get m1]
    omega
  rw[if_neg (by omega)]
  have hl64:=VectorR_len he1
  generalize hf:(fun r:List (P4 × Int)=>dotR (atL r) (atL l) r.length)=f
  have hf':∀ r:List (P4 × Int),f r=dotR (atL r) (atL l) r.length:=fun r=>by rw[← hf]
  clear hf
  conv=>whnf
  refine W_loop (pol:=fun | 49=>.imm | _=>.loc) Γok (Nat × PH × Value × PH) (fun i=>i.1≤m.length∧Sub H2 i.2.1∧(∀ r∈m.take i.1,(f r).2=0)∧NumO i.2.2.2 i.2.2.1 ((m.take i.1).map fun r=>(f r).1)) (fun i=>m.length - i.1) (fun i=>[(9,.v (.int .i64 i.1)),(8,.v i.2.2.1)]) (fun _=>[]) (fun i=>i.2.1) (fun i=>i.2.2.2) ⟨(0,H2,.slice none 0 0,emp),⟨by simp,Sub.refl _,by simp,by simpa using nil0⟩,rfl,rfl,?_⟩ ?_
  · conv=>whnf
    repeat (refine⟨rfl,?_⟩;conv=>whnf)
    exact trivial
  · rintro ⟨i,H',out,O'⟩ ⟨h1,h2,h4,h3⟩
    dsimp only at h1 h2 h3 h4
    conv=>whnf
    refine if_intro (fun h=>?_) (fun h=>?_)
    · have hi:i < m.length:=by simpa using h
      obtain⟨b1,off1,bb,cc,hsm,hrd,hn⟩:=((hu.up s12).up h2).rd (O:=O') hi
      cases hsm
      conv=>whnf
      refine dec_intro (by simpa using hi) ?_
      conv=>whnf
      refine⟨_,hrd,?_⟩
      conv=>whnf
      have hlen:=m3 _ (List.getElem_mem hi)
      have hwl:m[i].length=l.length:=by rw[← hlk];exact hlen.2.2
      refine (c106 m[i] l (by omega) (by omega) _ _ _ hn ((hv.up s12).up h2)).val fun H3 hs=>?_
      rw[← hf']
      conv=>whnf
      intro bx
      conv=>whnf
      refine if_intro (fun he=>?_) (fun he=>?_)
      · conv=>whnf
        have he:(f m[i]).2 ≠ 0:=by simpa using he
        rw[applyG_bad hi h4 he]
        exact⟨_,rfl,by simp,.inl ⟨rfl,by simp⟩⟩
      have he:(f m[i]).2=0:=by simpa using he
      conv=>whnf
      intro b2 hb2 hO2
      conv=>whnf
      refine append_one (xs:=((m.take i).map fun r=>(f r).1).map cellsOf) (y:=cellsOf (f m[i]).1) h3 rfl rfl (cellsOf_one _) ⟨_,_,_,rfl,rfl,Rd.whole (ins_same _ _ _)⟩ ?_ fun v O2 hO2 hfr=>?_
      · have:((m.take i).map fun r=>(f r).1).length≤m.length:=by simp;omega
        simp only[List.length_map] at this ⊢
        omega
      conv=>whnf
      refine⟨(i+1,ins H3 b2 (.cells ⟨cellsOf (f m[i]).1⟩ 33 (0,0)),v,O2),⟨hi,(h2.trans hs).trans (sub_ins _ _ hb2),?_,?_⟩,by dsimp only;omega,?_⟩
      · dsimp only
        rw[List.take_succ_eq_append_getElem hi]
        intro r hr
        rcases List.mem_append.1 hr with hr | hr
        · exact h4 r hr
        · simp at hr;subst hr;exact he
      · dsimp only
        rw[List.take_succ_eq_append_getElem hi]
        show OwnS O2 5 33 v (((m.take i++[m[i]]).map fun r=>(f r).1).map cellsOf)
        simp only[List.map_append,List.map_cons,List.map_nil] at hO2 ⊢
        exact hO2
      · conv=>whnf
        refine⟨rfl,rfl,?_⟩
        conv=>whnf
        repeat (refine⟨rfl,?_⟩;conv=>whnf)
        refine⟨by show En.v (.int .i64 (IntKind.i64.wrap (i+1)))=_;rw[wrap_id (by omega) (by omega)];rfl,?_⟩
        conv=>whnf
        repeat (refine⟨rfl,?_⟩;conv=>whnf)
        exact trivial
    · have hi:m.length≤i:=by simpa using h
      conv=>whnf
      rw[List.take_of_length_le hi] at h3 h4
      rw[applyG_ok h4]
      exact⟨_,rfl,h3⟩
end Go.Proofs.YtgbhgfdgifkdhaaGreat

namespace Go.Proofs.YtgbhgfdgifkdhaaGreat
open Go.Proofs.YtgbhgfdgifkdhaaGreat.X Go.Proofs.YtgbhgfdgifkdhaaGreat.X.PH
set_option maxRecDepth 100000
theorem c119 (l : List (P4 × Int)) (i:Nat) (hi:i < l.length) (H:PH) (v:Value) (b:Nat) (t:TypeId) (hv:NumH H v l) (hb:H b=some (.cells ⟨[v]⟩ t (0,0))):Cl Tryz.prog 141 [.int .i64 i,.pointer (some ⟨b,0,none⟩)] H emp fun r _ _=>r=nv l[i]:=by
  obtain⟨base,cap,rfl,_⟩:=id hv
  obtain⟨_,b',off',rfl,hrd⟩:=hv.rd (O:=emp) hi
  refine Cl_of (pol:=polL) Γok Tryz.func141 (by kernel_rfl) rfl ?_
  conv=>whnf
  repeat (intro _;conv=>whnf)
  refine⟨_,Rd.whole hb,?_⟩
  conv=>whnf
  refine dec_intro (by omega) ?_
  conv=>whnf
  refine⟨_,hrd,?_⟩
  conv=>whnf
  rfl
theorem c120 (l : List (P4 × Int)) (i:Nat) (hi:i < l.length) (H:PH) (v:Value) (b:Nat) (t:TypeId) (hv:NumH H v l) (hb:H b=some (.cells ⟨[v]⟩ t (0,0))):Cl Tryz.prog 142 [.int .i64 i,.pointer (some ⟨b,0,none⟩)] H emp fun r _ _=>r=nv l[i]:=by
  obtain⟨base,cap,rfl,_⟩:=id hv
  obtain⟨_,b',off',rfl,hrd⟩:=hv.rd (O:=emp) hi
  refine Cl_of (pol:=polL) Γok Tryz.func142 (by kernel_rfl) rfl ?_
  conv=>whnf
  repeat (intro _;conv=>whnf)
  refine⟨_,Rd.whole hb,?_⟩
  conv=>whnf
  refine dec_intro (by omega) ?_
  conv=>whnf
  refine⟨_,hrd,?_⟩
  conv=>whnf
  rfl
theorem one_mat {H : PH} {b:Nat} {v:Value} {l:List (P4 × Int)} (hb:H b=some (.cells ⟨[v]⟩ 31 (0,0))) (hv:NumH H v l):MatH H (.slice (some ⟨b,0,none⟩) 1 1) [l]:=by
  refine⟨[v],rfl,⟨_,_,rfl,.inr ⟨b,0,_,_,_,rfl,hb,rfl⟩⟩,fun i r u hr hu=>?_⟩
  match i,hr,hu with
  | 0,hr,hu=>cases hr;cases hu;exact hv
def ApplyF (m : List (List (P4 × Int))) (l:List (P4 × Int)):List (P4 × Int) × Int:=
  if checkMF m ≠ 0 then ([],checkMF m) else if errsV [l] ≠ 0 then ([],errsV [l]) else if wideM m ≠ l.length then ([],7) else applyG (fun r=>dotF (atL r) (atL l) l.length) m
theorem c46 (m : List (List (P4 × Int))) (l:List (P4 × Int)) (hm:m.length < 1000000) (hl:l.length < 1000000) (H:PH) (u v:Value) (hu:MatH H u m) (hv:NumH H v l) :
    Cl Tryz.prog 60 [u,v] H emp fun r H' M'=>∃ x,r=.tuple #[x,.int .i64 (ApplyF m l).2]∧NumO M' x (ApplyF m l).1:=by
  obtain⟨base,cap,rfl⟩:=hu.sl
  obtain⟨base',cap',rfl,_⟩:=id hv
  refine Cl_of (pol:=fun | 3=>.imm | 19=>.imm | 48=>.imm | 10=>.own | _=>.loc) Γok Tryz.func60 (by kernel_rfl) rfl ?_
  conv=>whnf
  intro bv hbv _
  conv=>whnf
  have s0:=sub_ins H (.cells ⟨[.slice base' l.length cap']⟩ 31 (0,0)) hbv
  have hbv':=ins_same H bv (.cells ⟨[.slice base' l.length cap']⟩ 31 (0,0))
  replace hu:=hu.up s0
  replace hv:=hv.up s0
  generalize ins H bv (.cells ⟨[.slice base' l.length cap']⟩ 31 (0,0))=H0 at hu hv hbv' ⊢
  have nil0:NumO emp (.slice none 0 0) []:=⟨by simp,.inl ⟨rfl,by simp⟩⟩
  unfold ApplyF
  refine (c29 m _ _ hm hu).val fun H1 s1=>?_
  conv=>whnf
  refine if_intro (fun he=>?_) (fun he=>?_)
  · conv=>whnf
    rw[if_pos (show checkMF m ≠ 0 by simpa using he)]
    exact⟨_,rfl,nil0⟩
  have he0:checkMF m=0:=by simpa using he
  rw[if_neg (by rw[he0];simp)]
  obtain⟨m1,m2,m3,m4⟩:=checkMR_zero ((checkMF_checkMR m).symm.trans he0)
  conv=>whnf
  intro b1 hb1 _
  conv=>whnf
  have s2:=sub_ins H1 (.cells ⟨[.slice base' l.length cap']⟩ 31 (0,0)) hb1
  refine (c117 [l] (by simp) _ _ (one_mat (ins_same _ _ _) ((hv.up s1).up s2))).val fun H2 s3=>?_
  conv=>whnf
  refine if_intro (fun he=>?_) (fun he=>?_)
  · conv=>whnf
    rw[if_pos (show errsV [l] ≠ 0 by simpa using he)]
    exact⟨_,rfl,nil0⟩
  have he1:errsV [l]=0:=by simpa using he
  rw[if_neg (by rw[he1];simp)]
  have s13:=s1.trans (s2.trans s3)
  conv=>whnf
  refine W_draw (pol:=fun | 3=>.imm | 19=>.imm | 48=>.imm | 10=>.own | _=>.loc) Γok mixes [(0,.pendO),(2,.pend),(3,.pend),(1,.lock),(4,.pendO)] 52 (by kernel_rfl) rfl ?_
  conv=>whnf
  refine (c111 m m1 _ _ (hu.up s13)).val fun H3 s4=>?_
  conv=>whnf
  refine if_intro (fun hn=>?_) (fun hn=>?_)
  · conv=>whnf
    rw[if_pos (show wideM m ≠ l.length from fun e=>by rw[e] at hn;simp at hn)]
    exact⟨_,rfl,nil0⟩
  have hlk:wideM m=l.length:=by
    have:((wideM m:Nat):Int)=l.length:=by simpa using hn
    omega
  rw[if_neg (by omega)]
  have s14:=s13.trans s4
  generalize hf:(fun r:List (P4 × Int)=>dotF (atL r) (atL l) l.length)=f
  have hf':∀ r:List (P4 × Int),f r=dotF (atL r) (atL l) l.length:=fun r=>by rw[← hf]
  clear hf
  conv=>whnf
  refine W_loop (pol:=fun | 3=>.imm | 19=>.imm | 48=>.imm | 10=>.own | _=>.loc) Γok (Nat × PH × Value × PH) (fun i=>i.1≤m.length∧Sub H3 i.2.1∧(∀ r∈m.take i.1,(f r).2=0)∧NumO i.2.2.2 i.2.2.1 ((m.take i.1).map fun r=>(f r).1)) (fun i=>m.length - i.1) (fun i=>[(31,.v (.int .i64 i.1)),(8,.v i.2.2.1)]) (fun _=>[]) (fun i=>i.2.1) (fun i=>i.2.2.2) ⟨(0,H3,.slice none 0 0,emp),⟨by simp,Sub.refl _,by simp,by simpa using nil0⟩,rfl,rfl,?_⟩ ?_
  · conv=>whnf
    repeat (refine⟨rfl,?_⟩;conv=>whnf)
    exact trivial
  · rintro ⟨i,H',out,O'⟩ ⟨h1,h2,h4,h3⟩
    dsimp only at h1 h2 h3 h4
    conv=>whnf
    refine if_intro (fun h=>?_) (fun h=>?_)
    · have hi:i < m.length:=by simpa using h
      obtain⟨b2,off2,bb,cc,rfl,hrd,hn⟩:=((hu.up s14).up h2).rd (O:=O') hi
      conv=>whnf
      refine dec_intro (by simpa using hi) ?_
      conv=>whnf
      refine⟨_,hrd,?_⟩
      conv=>whnf
      have hlen:=m3 _ (List.getElem_mem hi)
      have hwl:m[i].length=l.length:=by rw[← hlk];exact hlen.2.2
      intro bf hbf hOf
      conv=>whnf
      refine⟨_,_,ins_same _ _ _,by simp,?_⟩
      conv=>whnf
      have s5:=sub_ins H' (.cells ⟨[.slice bb m[i].length cc]⟩ 31 (0,0)) hbf
      have hc:=c118 (atL m[i]) (atL l) l.length hl (ins H' bf (.cells ⟨[.slice bb m[i].length cc]⟩ 31 (0,0))) (.func 141) #[] #[.pointer (some ⟨bf,0,none⟩)] (.func 142) #[] #[.pointer (some ⟨bv,0,none⟩)]
        (fun j hj=>by
          rw[atL_get (by omega)]
          exact⟨141,[],[_],rfl,fun H9 hs9=>c119 m[i] j (by omega) H9 _ _ _ ((hn.up s5).up hs9) (hs9 _ _ (ins_same _ _ _))⟩)
        (fun j hj=>by
          rw[atL_get (by omega)]
          exact⟨142,[],[_],rfl,fun H9 hs9=>c120 l j (by omega) H9 _ _ _ ((((hv.up s14).up h2).up s5).up hs9) (hs9 _ _ (s5 _ _ (h2 _ _ (s14 _ _ hbv'))))⟩)
      rw[← hf'] at hc
      refine Cl.pub (ins_same _ _ _) (fun _=>?_) hc.ent
      rw[show del (ins (ins O' bf _) bf _) bf=O' by funext n;unfold del ins;by_cases e:n=bf<;>simp[e];exact hOf.symm]
      refine hc.val fun H4 s6=>?_
      conv=>whnf
      intro bx
      conv=>whnf
      refine if_intro (fun he=>?_) (fun he=>?_)
      · conv=>whnf
        have he:(f m[i]).2 ≠ 0:=by simpa using he
        rw[applyG_bad hi h4 he]
        exact⟨_,rfl,by simp,.inl ⟨rfl,by simp⟩⟩
      have he:(f m[i]).2=0:=by simpa using he
      conv=>whnf
      intro b5 hb5 hO5
      conv=>whnf
      refine append_one (xs:=((m.take i).map fun r=>(f r).1).map cellsOf) (y:=cellsOf (f m[i]).1) h3 rfl rfl (cellsOf_one _) ⟨_,_,_,rfl,rfl,Rd.whole (ins_same _ _ _)⟩ ?_ fun v O2 hO2 hfr=>?_
      · have:((m.take i).map fun r=>(f r).1).length≤m.length:=by simp;omega
        simp only[List.length_map] at this ⊢
        omega
      conv=>whnf
      refine⟨(i+1,ins H4 b5 (.cells ⟨cellsOf (f m[i]).1⟩ 33 (0,0)),v,O2),⟨hi,((h2.trans s5).trans s6).trans (sub_ins _ _ hb5),?_,?_⟩,by dsimp only;omega,?_⟩
      · dsimp only
        rw[List.take_succ_eq_append_getElem hi]
        intro r hr
        rcases List.mem_append.1 hr with hr | hr
        · exact h4 r hr
        · simp at hr;subst hr;exact he
      · dsimp only
        rw[List.take_succ_eq_append_getElem hi]
        show OwnS O2 5 33 v (((m.take i++[m[i]]).map fun r=>(f r).1).map cellsOf)
        simp only[List.map_append,List.map_cons,List.map_nil] at hO2 ⊢
        exact hO2
      · conv=>whnf
        refine⟨rfl,rfl,?_⟩
        conv=>whnf
        repeat (refine⟨rfl,?_⟩;conv=>whnf)
        refine⟨by show En.v (.int .i64 (IntKind.i64.wrap (i+1)))=_;rw[wrap_id (by omega) (by omega)];rfl,?_⟩
        conv=>whnf
        repeat (refine⟨rfl,?_⟩;conv=>whnf)
        exact trivial
    · have hi:m.length≤i:=by simpa using h
      conv=>whnf
      rw[List.take_of_length_le hi] at h3 h4
      rw[applyG_ok h4]
      exact⟨_,rfl,h3⟩
end Go.Proofs.YtgbhgfdgifkdhaaGreat

namespace Go.Proofs.YtgbhgfdgifkdhaaGreat
open Go.Proofs.YtgbhgfdgifkdhaaGreat.X Go.Proofs.YtgbhgfdgifkdhaaGreat.X.PH
set_option maxRecDepth 100000
theorem NumO.share {H M : PH} {v:Value} {l:List (P4 × Int)} (h:NumO M v l) (hd:Dis H M):NumH (un H M) v l:=by
  obtain⟨h1,h⟩:=h
  rcases h with⟨rfl,h⟩ | ⟨b,cap,spare,rfl,hO,hcap,hsp⟩
  · have:l=[]:=by simpa using h
    subst this
    exact⟨none,0,rfl,.inl ⟨rfl,rfl⟩⟩
  · refine⟨some ⟨b,0,none⟩,cap,by simp,.inr ⟨b,0,_,_,_,rfl,un_right hd hO,?_⟩⟩
    simp[cellsN]
theorem c44' (m : List (List (P4 × Int))) (l:List (P4 × Int)) (hl:l.length < 1000000) (H:PH) (u v:Value) (hu:MatH H u m) (hv:NumH H v l) :
    Cl Tryz.prog 58 [u,v] H emp fun r H' _=>∃ x,r=.tuple #[x,.int .i64 (ApplyR m l).2]∧NumH H' x (ApplyR m l).1:=
  (c44 m l hl H u v hu hv).repart fun _ _ _ _ hd ⟨x,hx,h⟩=>by
    obtain⟨H',M',h1,h2⟩:=NumO.pub hd h
    exact⟨H',M',h1,x,hx,h2⟩
theorem one_mats {H : PH} {b:Nat} {t:TypeId} {u:Value} {m:List (List (P4 × Int))} (hb:H b=some (.cells ⟨[u]⟩ t (0,0))) (hu:MatH H u m):MatsH H (.slice (some ⟨b,0,none⟩) 1 1) [m]:=by
  refine⟨[u],rfl,⟨_,_,rfl,.inr ⟨b,0,_,_,_,rfl,hb,rfl⟩⟩,fun i m' u' hm hu'=>?_⟩
  match i,hm,hu' with
  | 0,hm,hu'=>cases hm;cases hu';exact hu
theorem applyG_len (f : List (P4 × Int)→(P4 × Int) × Int) (m:List (List (P4 × Int))):(applyG f m).1.length≤m.length:=by
  induction m with
  | nil=>simp[applyG]
  | cons r m ih=>
    unfold applyG
    split
    · simp
    · split
      · simp
      · simpa using ih
theorem ApplyR_len (m : List (List (P4 × Int))) (l:List (P4 × Int)):(ApplyR m l).1.length≤m.length:=by
  unfold ApplyR
  split
  · simp
  · split
    · simp
    · split
      · simp
      · exact applyG_len _ _
theorem nilN {H : PH}:NumH H (.slice none 0 0) []:=⟨none,0,rfl,.inl ⟨rfl,rfl⟩⟩
theorem eqCells_nv (x : P4 × Int):eqCells [.int .i64 x.1.a,.int .i64 x.1.b,.int .i64 x.1.c,.int .i64 x.1.d,.int .i64 x.2] [.int .i64 x.1.a,.int .i64 x.1.b,.int .i64 x.1.c,.int .i64 x.1.d,.int .i64 x.2]=true:=by
  simp[eqCells,cellsOf]
theorem NumO.clearK {O : PH} {v:Value} {l:List (P4 × Int)} {K:PH→Prop} (h:NumO O v l) (k:∀ O',K O'):Go.Proofs.YtgbhgfdgifkdhaaGreat.X.clearK O 5 [.int .i64 0,.int .i64 0,.int .i64 0,.int .i64 0,.int .i64 0] v K:=by
  obtain⟨h1,h⟩:=h
  unfold Go.Proofs.YtgbhgfdgifkdhaaGreat.X.clearK
  rcases h with⟨rfl,h⟩ | ⟨b,cap,spare,rfl,hO,hcap,hsp⟩
  · refine⟨none,0,0,rfl,rfl,by simp[Value.oneCell'],fun _=>k _,fun a h=>by cases h⟩
  · refine⟨some ⟨b,0,none⟩,_,cap,rfl,rfl,by simp[Value.oneCell'],fun _=>k _,fun a h _=>?_⟩
    cases h
    refine⟨b,0,_,_,rfl,hO,?_,k _⟩
    rw[List.length_append,flat_length h1]
    omega
theorem c7 (haw : ∀ m l,ApplyF m l=ApplyR m l) (hin:∀ l k,InnerF l k=InnerR l k) (m:List (List (P4 × Int))) (l k:List (P4 × Int)) (hm:m.length < 9223372036854775808) (hl:l.length < 9223372036854775808) (hk:k.length < 9223372036854775808) (H:PH) (u v w:Value) (hu:MatH H u m) (hv:NumH H v l) (hw:NumH H w k) :
    Cl Tryz.prog 12 [u,v,w] H emp fun r _ _=>r=.bool true:=by
  obtain⟨base,cap,rfl⟩:=hu.sl
  obtain⟨base1,cap1,rfl,_⟩:=id hv
  obtain⟨base2,cap2,rfl,_⟩:=id hw
  refine Cl_of (pol:=fun | 19=>.imm | _=>.loc) Γok Tryz.func12 (by kernel_rfl) rfl ?_
  conv=>whnf
  intro b hb _
  conv=>whnf
  have s1:=sub_ins H (.cells ⟨[.slice base m.length cap]⟩ 23 (0,0)) hb
  refine (c13 [m] (by simp) (by simp;omega) _ _ (one_mats (ins_same _ _ _) (hu.up s1))).val fun H1 s2=>?_
  conv=>whnf
  cases hg:bigF [m]
  rotate_left
  · conv=>whnf
    refine (c14 _).val fun H2 s3=>?_
    conv=>whnf
  conv=>whnf
  cases hgl:decide ((l.length:Int) > 66)
  rotate_left
  · conv=>whnf
    refine (c14 _).val fun H2 s3=>?_
    conv=>whnf
  conv=>whnf
  cases hgk:decide ((k.length:Int) > 66)
  rotate_left
  · conv=>whnf
    refine (c14 _).val fun H2 s3=>?_
    conv=>whnf
  have hl66:l.length≤66:=by have:=of_decide_eq_false hgl;omega
  have hk66:k.length≤66:=by have:=of_decide_eq_false hgk;omega
  obtain⟨hm8,hmr⟩:=big_le hg m (by simp)
  have hu1:=(hu.up s1).up s2
  have hv1:=(hv.up s1).up s2
  have hw1:=(hw.up s1).up s2
  conv=>whnf
  refine (c15' m _ _ hu1 (by omega) (fun r hr=>by have:=hmr r hr;omega)).use fun ox H2 s3 hox=>?_
  obtain⟨_,hox⟩:=hox
  conv=>whnf
  refine (c43' l _ _ (hv1.up s3) (by omega)).use fun oy H3 s4 hoy=>?_
  obtain⟨_,hoy⟩:=hoy
  conv=>whnf
  refine (c43' k _ _ ((hw1.up s3).up s4) (by omega)).use fun oz H4 s5 hoz=>?_
  obtain⟨_,hoz⟩:=hoz
  conv=>whnf
  have s35:=s3.trans (s4.trans s5)
  have hu4:=hu1.up s35
  have hv4:=hv1.up s35
  have hw4:=hw1.up s35
  have hox4:=hox.up (s4.trans s5)
  have hoy4:=hoy.up s5
  clear hu hv hw hu1 hv1 hw1 hox hoy
  refine (c44' m l (by omega) _ _ _ hu4 hv4).use fun r H5 s6 hr=>?_
  obtain⟨_,want,rfl,hwant⟩:=hr
  conv=>whnf
  refine (c45 l k (by omega) (by omega) _ _ _ (hv4.up s6) (hw4.up s6)).val fun H6 s7=>?_
  conv=>whnf
  intro b12
  conv=>whnf
  have s67:=s6.trans s7
  have h46:=c46 m l (by omega) (by omega) _ _ _ (hox4.up s67) (hoy4.up s67)
  rw[haw m l] at h46
  refine h46.mono fun ra H7 M7 s8 hr=>?_
  obtain⟨a,rfl,ha⟩:=hr
  conv=>whnf
  have s68:=s67.trans s8
  have h47:=c47 l k (by omega) (by omega) _ _ _ (hoy4.up s68) (hoz.up s68)
  rw[hin l k] at h47
  refine h47.val fun H8 s9=>?_
  clear h46 h47
  have hAl:(ApplyR m l).1.length≤8:=by
    have:(ApplyR m l).1.length≤m.length:=ApplyR_len m l
    omega
  generalize ApplyR m l=A at *
  generalize InnerR l k=I at *
  conv=>whnf
  intro b16
  conv=>whnf
  rw[bne_self_eq_false]
  conv=>whnf
  rw[bne_self_eq_false]
  conv=>whnf
  have s69:=s68.trans s9
  have hent:=(c48 [] [] emp _ _ nilN nilN (by simp)).ent
  have hwant':=(((hwant.up s7).up s8).up s9)
  refine (Cl.share' (Q:=fun r=>r=.bool (eqL A.1 A.1)) hent fun hd=>c48 A.1 A.1 _ _ _ (ha.share hd) (hwant'.up fun n o hn=>by simp[un,hn]) (by omega)).mono fun r H9 M9 s10 hq=>?_
  obtain⟨hsubM,rfl⟩:=hq
  rw[eqL_refl]
  conv=>whnf
  rw[eqCells_nv I.1]
  conv=>whnf
  refine NumO.clearK (OwnS.keep ha fun n cs h=>hsubM n _ h) fun O'=>?_
  conv=>whnf
  have hsub:=s69.trans s10
  have hmr':∀ r∈m,r.length < 9223372036854775808:=fun r hr=>by have:=hmr r hr;omega
  refine (c23 m m _ _ _ (hox4.up hsub) (hu4.up hsub) (by omega) hmr').val fun H10 s11=>?_
  rw[eqM_refl]
  conv=>whnf
  refine (c48 l l _ _ _ ((hoy4.up hsub).up s11) ((hv4.up hsub).up s11) (by omega)).val fun H11 s12=>?_
  rw[eqL_refl]
  conv=>whnf
  refine (c48 k k _ _ _ (((hoz.up hsub).up s11).up s12) (((hw4.up hsub).up s11).up s12) (by omega)).val fun H12 s13=>?_
  rw[eqL_refl]
  conv=>whnf
  refine (c14 _).val fun H13 s14=>?_
  conv=>whnf
end Go.Proofs.YtgbhgfdgifkdhaaGreat

namespace Go.Proofs.YtgbhgfdgifkdhaaGreat
open Go.Proofs.YtgbhgfdgifkdhaaGreat.X Go.Proofs.YtgbhgfdgifkdhaaGreat.X.PH
set_option maxRecDepth 100000
theorem P4.ext' {p q : P4} (h1:p.a=q.a) (h2:p.b=q.b) (h3:p.c=q.c) (h4:p.d=q.d):p=q:=by
  cases p;cases q;simp_all
def tw (p : P4):P4:=⟨p.b - p.d,p.a+p.c,p.b+p.d,p.c - p.a⟩
def rz : Nat→P4→P4
  | 0,p=>p
  | n+1,p=>tw (rz n p)
def pl (p q : P4):P4:=⟨p.a+q.a,p.b+q.b,p.c+q.c,p.d+q.d⟩
theorem wr_id {n : Int} (h1:-9223372036854775808≤n) (h2:n < 9223372036854775808):wr n=n:=wrap_id h1 h2
theorem within_mono {p : P4} {u v:Int} (h:p.within u) (huv:u≤v):p.within v:=by
  unfold P4.within at *
  omega
theorem twice_tw {p : P4} (h:p.within 2305843009213693952):p.twice=tw p:=by
  unfold P4.within at h
  unfold P4.twice tw
  rw[wr_id (by omega) (by omega),wr_id (by omega) (by omega),wr_id (by omega) (by omega),wr_id (by omega) (by omega)]
def grown (M : Int):Nat→Int
  | 0=>M
  | 1=>2*M
  | n+2=>2*grown M n
theorem rz_grown {p : P4} {M:Int} (h:p.within M):∀ n,(rz n p).within (grown M n)∧(tw (rz n p)).within (grown M (n+1))
  | 0=>by
    refine⟨h,?_⟩
    show (tw p).within (2*M)
    unfold P4.within at *
    unfold tw
    dsimp only
    omega
  | n+1=>by
    obtain⟨h1,h2⟩:=rz_grown h n
    refine⟨h2,?_⟩
    show (tw (tw (rz n p))).within (2*grown M n)
    unfold P4.within at h1 ⊢
    unfold tw
    dsimp only
    omega
theorem grown_le : ∀ n,n≤60→grown 1073741824 n≤1152921504606846976:=by
  intro n hn
  have:∀ n:Fin 61,grown 1073741824 n≤1152921504606846976:=by decide +kernel
  exact this ⟨n,by omega⟩
theorem rz_within {p : P4} (h:p.within 1073741824) {n:Nat} (hn:n≤60):(rz n p).within 1152921504606846976:=
  within_mono (rz_grown h n).1 (grown_le n hn)
theorem raiseP_rz {p : P4} (h:p.within 1073741824):∀ n,n≤60→raiseP n p=rz n p
  | 0,_=>rfl
  | n+1,hn=>by
    show (raiseP n p).twice=tw (rz n p)
    rw[raiseP_rz h n (by omega),twice_tw (within_mono (rz_within h (by omega)) (by decide))]
theorem tw_pl (p q : P4):tw (pl p q)=pl (tw p) (tw q):=by
  unfold tw pl
  apply P4.ext'<;>dsimp only<;>omega
theorem rz_pl (p q : P4):∀ n,rz n (pl p q)=pl (rz n p) (rz n q)
  | 0=>rfl
  | n+1=>by
    show tw (rz n (pl p q))=_
    rw[rz_pl p q n,tw_pl]
    rfl
theorem rz_add (p : P4) (m:Nat):∀ n,rz (n+m) p=rz n (rz m p)
  | 0=>by rw[Nat.zero_add];rfl
  | n+1=>by
    rw[Nat.succ_add]
    show tw (rz (n+m) p)=tw (rz n (rz m p))
    rw[rz_add p m n]
theorem tw_zero {p : P4}:(tw p).isZero=p.isZero:=by
  rw[Bool.eq_iff_iff,isZero_iff,isZero_iff]
  unfold tw
  dsimp only
  omega
theorem rz_isZero {p : P4}:∀ n,(rz n p).isZero=p.isZero
  | 0=>rfl
  | n+1=>by
    show (tw (rz n p)).isZero=_
    rw[tw_zero,rz_isZero n]
theorem isZero_eq {p : P4} (h:p.isZero=true):p=P4.zero:=by
  obtain⟨a,b,c,d⟩:=isZero_iff.1 h
  cases p
  simp_all [P4.zero]
def P4.fine (p : P4):Prop:=(-4611686018427387904≤p.a+p.c∧p.a+p.c≤4611686018427387904)∧(-4611686018427387904≤p.a - p.c∧p.a - p.c≤4611686018427387904) ∧
  (-4611686018427387904≤p.b+p.d∧p.b+p.d≤4611686018427387904)∧(-4611686018427387904≤p.b - p.d∧p.b - p.d≤4611686018427387904)
theorem fine_of {p : P4} (h:p.within 2305843009213693952):p.fine:=by
  unfold P4.within at h
  unfold P4.fine
  omega
theorem even_fine {p : P4} (h:p.fine):p.even=evenR p:=by
  unfold P4.fine at h
  unfold P4.even evenR
  rw[wr_id (by omega) (by omega),wr_id (by omega) (by omega),Bool.eq_iff_iff]
  simp only[Bool.and_eq_true,beq_iff_eq,tm2,low_mod]
  omega
def hf (p : P4):P4:=⟨(p.b - p.d) / 2,(p.a+p.c) / 2,(p.b+p.d) / 2,(p.c - p.a) / 2⟩
theorem half_fine {p : P4} (h:p.fine) (he:evenR p=true):p.half=hf p∧halvedR p=hf p∧(hf p).fine∧tw (hf p)=p:=by
  unfold P4.fine at h
  obtain⟨h1,h2,h3,h4⟩:=h
  obtain⟨e1,e2⟩:=evenR_iff.1 he
  have t1:=td2 (x:=p.b - p.d) (by omega)
  have t2:=td2 (x:=p.a+p.c) (by omega)
  have t3:=td2 (x:=p.b+p.d) (by omega)
  have t4:=td2 (x:=p.c - p.a) (by omega)
  refine⟨?_,?_,?_,?_⟩
  · unfold P4.half hf
    rw[wr_id (n:=p.b - p.d) (by omega) (by omega),wr_id (n:=p.a+p.c) (by omega) (by omega),wr_id (n:=p.b+p.d) (by omega) (by omega),wr_id (n:=p.c - p.a) (by omega) (by omega),t1,t2,t3,t4,
      wr_id (by omega) (by omega),wr_id (by omega) (by omega),wr_id (by omega) (by omega),wr_id (by omega) (by omega)]
  · unfold halvedR hf
    simp only[shr1_div,low_mod]
    rw[wr_id (n:=p.b / 2 - p.d / 2) (by omega) (by omega),wr_id (n:=p.a / 2+p.c / 2) (by omega) (by omega),wr_id (n:=p.b / 2+p.d / 2) (by omega) (by omega),wr_id (n:=p.c / 2 - p.a / 2) (by omega) (by omega),wr_id (by omega) (by omega),wr_id (by omega) (by omega)]
    apply P4.ext'<;>dsimp only<;>omega
  · unfold P4.fine hf
    dsimp only
    omega
  · unfold tw hf
    apply P4.ext'<;>dsimp only<;>omega
theorem lower_fine : ∀ (k:Nat) (p:P4),p.fine→lower k p=lowerR k p
  | 0,p,h=>rfl
  | k+1,p,h=>by
    unfold lower lowerR
    rw[even_fine h]
    cases e:evenR p with
    | false=>rfl
    | true=>
      obtain⟨h1,h2,h3,_⟩:=half_fine h e
      simp only[if_true]
      rw[h1,h2]
      exact lower_fine k _ h3
theorem lowerR_le : ∀ (k:Nat) (p:P4),(lowerR k p).2≤k
  | 0,p=>Nat.le_refl _
  | k+1,p=>by
    unfold lowerR
    split
    · have:=lowerR_le k (halvedR p);omega
    · exact Nat.le_refl _
theorem formR_eq {p : P4} {k:Int} (h:0≤k) (hz:p.isZero=false):formR p k=((lowerR k.toNat p).1,((lowerR k.toNat p).2:Int)):=by
  unfold formR
  rw[hz]
  simp only[Bool.false_eq_true,if_false]
  split
  · rfl
  · have:k=0:=by omega
    subst this
    rfl
theorem least_fits {p : P4} {k:Int} (h:p.fine) (hk:0≤k):leastF p k=fitsR p k:=by
  cases hz:p.isZero with
  | true=>
    have:p=P4.zero:=isZero_eq hz
    subst this
    rfl
  | false=>
    unfold leastF fitsR
    rw[hz,formR_eq hk hz]
    simp only[Bool.false_eq_true,if_false]
    have hl:lowered p k=((lowerR k.toNat p).1,((lowerR k.toNat p).2:Int)):=by
      unfold lowered
      rw[lower_fine _ _ h]
      split
      · rfl
      · have:k=0:=by omega
        subst this
        rfl
    rw[hl]
    dsimp only
    rw[show (-((lowerR k.toNat p).2:Int)).toNat=0 by omega]
    show leastE (some _) _=_
    rw[leastE_some,← checkF_checkR]
    unfold checkF
    by_cases hj:60 < ((lowerR k.toNat p).2:Int)
    · rw[if_pos hj]
      rw[show (decide (((lowerR k.toNat p).2:Int) < 0) || decide (((lowerR k.toNat p).2:Int) > 60))=true by simp;omega]
      rfl
    · rw[if_neg hj]
      rw[show (decide (((lowerR k.toNat p).2:Int) < 0) || decide (((lowerR k.toNat p).2:Int) > 60))=false by simp;omega]
      cases (lowerR k.toNat p).1.list.all (inN 1073741824) with
      | false=>rfl
      | true=>
        simp only[Bool.false_eq_true,if_false,if_true]
        rw[if_neg (by simp),Int.max_eq_left (by omega)]
end Go.Proofs.YtgbhgfdgifkdhaaGreat

namespace Go.Proofs.YtgbhgfdgifkdhaaGreat
open Go.Proofs.YtgbhgfdgifkdhaaGreat.X Go.Proofs.YtgbhgfdgifkdhaaGreat.X.PH
set_option maxRecDepth 100000
theorem lowerR_tw {q : P4} (h:q.within 2305843009213693952) (k:Nat):lowerR (k+1) (tw q)=lowerR k q:=by
  unfold P4.within at h
  have he:evenR (tw q)=true:=by
    rw[evenR_iff]
    unfold tw
    dsimp only
    omega
  have hfi:(tw q).fine:=by
    unfold P4.fine tw
    dsimp only
    omega
  have hh:halvedR (tw q)=q:=by
    rw[(half_fine hfi he).2.1]
    unfold hf tw
    apply P4.ext'<;>dsimp only<;>omega
  show (if evenR (tw q) then lowerR k (halvedR (tw q)) else (tw q,k+1))=_
  rw[he,hh]
  rfl
theorem lowerR_rz {s : P4} (k:Nat):∀ n,(∀ i,i < n→(rz i s).within 2305843009213693952)→lowerR (k+n) (rz n s)=lowerR k s
  | 0,_=>rfl
  | n+1,h=>by
    show lowerR (k+n+1) (tw (rz n s))=_
    rw[lowerR_tw (h n (by omega)) (k+n),lowerR_rz k n fun i hi=>h i (by omega)]
theorem formR_rz {s : P4} {k:Int} (hk:0≤k) (n:Nat) (h:∀ i,i < n→(rz i s).within 2305843009213693952):formR (rz n s) (k+n)=formR s k:=by
  cases hz:s.isZero with
  | true=>
    have:=isZero_eq ((rz_isZero (p:=s) n).trans hz)
    rw[this,isZero_eq hz]
    rfl
  | false=>
    rw[formR_eq hk hz,formR_eq (by omega) ((rz_isZero (p:=s) n).trans hz)]
    rw[show (k+(n:Int)).toNat=k.toNat+n by omega,lowerR_rz _ _ h]
theorem lowerR_back : ∀ (k:Nat) (p:P4),p.within 1073741824→p=rz (k - (lowerR k p).2) (lowerR k p).1∧(lowerR k p).1.within 1073741824
  | 0,p,h=>⟨rfl,h⟩
  | k+1,p,h=>by
    unfold lowerR
    cases e:evenR p with
    | false=>exact⟨by simp[rz],by simpa using h⟩
    | true=>
      obtain⟨h1,h2⟩:=half_eq h e
      rw[h1] at h2
      obtain⟨g1,g2⟩:=lowerR_back k (halvedR p) h2
      simp only[if_true]
      refine⟨?_,g2⟩
      have hle:=lowerR_le k (halvedR p)
      obtain⟨f1,f2,f3,f4⟩:=half_fine (fine_of (within_mono h (by decide))) e
      rw[show k+1 - (lowerR k (halvedR p)).2=(k - (lowerR k (halvedR p)).2)+1 by omega]
      show p=tw (rz _ _)
      rw[← g1,f2,f4]
theorem formR_back {p : P4} {k:Int} (h:checkF p k=0):p=rz (k - (formR p k).2).toNat (formR p k).1∧0≤(formR p k).2∧(formR p k).2≤k∧(formR p k).1.within 1073741824:=by
  obtain⟨k1,k2,hp⟩:=checkF_range h
  have hw:=(all_iff (by decide) (by decide)).1 hp
  cases hz:p.isZero with
  | true=>
    have e:formR p k=(P4.zero,0):=by unfold formR;rw[hz];rfl
    rw[e]
    refine⟨?_,Int.le_refl _,k1,by unfold P4.within;simp[P4.zero]⟩
    have:(rz (k - ((P4.zero,(0:Int)):P4 × Int).2).toNat P4.zero).isZero=true:=by rw[rz_isZero];rfl
    rw[isZero_eq this,isZero_eq hz]
  | false=>
    rw[formR_eq k1 hz]
    obtain⟨g1,g2⟩:=lowerR_back k.toNat p hw
    have hle:=lowerR_le k.toNat p
    refine⟨?_,by dsimp only;omega,by dsimp only;omega,g2⟩
    dsimp only
    rw[show (k - ((lowerR k.toNat p).2:Int)).toNat=k.toNat - (lowerR k.toNat p).2 by omega]
    exact g1
theorem pl_within {p q : P4} {u v w:Int} (hp:p.within u) (hq:q.within v) (h:u+v≤w):(pl p q).within w:=by
  unfold P4.within at *
  unfold pl
  dsimp only
  omega
theorem opP_pl {p q : P4} (hp:p.within 1152921504606846976) (hq:q.within 1152921504606846976):opP (fun a b=>wr (a+b)) p q=pl p q:=by
  unfold P4.within at hp hq
  unfold opP pl
  dsimp only
  rw[wr_id (by omega) (by omega),wr_id (by omega) (by omega),wr_id (by omega) (by omega),wr_id (by omega) (by omega)]
theorem Add_eq (x y : P4 × Int):AddF x y=AddR x y:=by
  unfold AddF AddR
  rw[errs_same]
  by_cases he:checks2 x y=0
  · rw[if_pos he,if_neg (show ¬ errsF [x,y] ≠ 0 by unfold checks2 at he;rw[he];simp)]
    obtain⟨hx,hy⟩:=checks2_zero he
    have rx:=checkF_range hx
    have ry:=checkF_range hy
    have wx:=(all_iff (by decide) (by decide)).1 rx.2.2
    have wy:=(all_iff (by decide) (by decide)).1 ry.2.2
    obtain⟨bx,bx0,bxk,bxw⟩:=formR_back hx
    obtain⟨by',by0,byk,byw⟩:=formR_back hy
    generalize formR x.1 x.2=fx at *
    generalize formR y.1 y.2=fy at *
    have mx:maxI x.2 y.2=max x.2 y.2:=by unfold maxI;split<;>omega
    have mf:maxI fx.2 fy.2=max fx.2 fy.2:=by unfold maxI;split<;>omega
    unfold addG raisedF
    rw[mx,mf,wr_id (n:=max x.2 y.2 - x.2) (by omega) (by omega),wr_id (n:=max x.2 y.2 - y.2) (by omega) (by omega)]
    rw[raiseP_rz wx _ (by omega),raiseP_rz wy _ (by omega),raiseP_rz bxw _ (by omega),raiseP_rz byw _ (by omega)]
    rw[opP_pl (rz_within wx (by omega)) (rz_within wy (by omega)),opP_pl (rz_within bxw (by omega)) (rz_within byw (by omega))]
    have key:pl (rz (max x.2 y.2 - x.2).toNat x.1) (rz (max x.2 y.2 - y.2).toNat y.1)=rz (max x.2 y.2 - max fx.2 fy.2).toNat (pl (rz (max fx.2 fy.2 - fx.2).toNat fx.1) (rz (max fx.2 fy.2 - fy.2).toNat fy.1)):=by
      rw[rz_pl,← rz_add,← rz_add]
      rw[bx,by',← rz_add,← rz_add]
      congr 2<;>omega
    have small:∀ i,i≤(max x.2 y.2 - max fx.2 fy.2).toNat→(rz i (pl (rz (max fx.2 fy.2 - fx.2).toNat fx.1) (rz (max fx.2 fy.2 - fy.2).toNat fy.1))).within 2305843009213693952:=by
      intro i hi
      rw[rz_pl,← rz_add,← rz_add]
      exact pl_within (rz_within bxw (by omega)) (rz_within byw (by omega)) (by decide)
    rw[key,least_fits (fine_of (small _ (Nat.le_refl _))) (by omega)]
    unfold fitsR
    have:=formR_rz (s:=pl (rz (max fx.2 fy.2 - fx.2).toNat fx.1) (rz (max fx.2 fy.2 - fy.2).toNat fy.1)) (k:=max fx.2 fy.2) (by omega) (max x.2 y.2 - max fx.2 fy.2).toNat fun i hi=>small i (by omega)
    rw[show max fx.2 fy.2+((max x.2 y.2 - max fx.2 fy.2).toNat:Int)=max x.2 y.2 by omega] at this
    rw[this]
  · rw[if_neg he,if_pos (show errsF [x,y] ≠ 0 from he)]
    rfl
end Go.Proofs.YtgbhgfdgifkdhaaGreat

namespace Go.Proofs.YtgbhgfdgifkdhaaGreat
open Go.Proofs.YtgbhgfdgifkdhaaGreat.X Go.Proofs.YtgbhgfdgifkdhaaGreat.X.PH
set_option maxRecDepth 100000
theorem mb {u : Int} (x:Int) (h:-1073741824≤u∧u≤1073741824):-(1073741824*max x (-x))≤x*u∧x*u≤1073741824*max x (-x):=by
  rcases Int.le_total 0 x with hx | hx
  · have h1:=Int.mul_le_mul_of_nonneg_left h.1 hx
    have h2:=Int.mul_le_mul_of_nonneg_left h.2 hx
    rw[Int.max_eq_left (by omega)]
    omega
  · have h1:=Int.mul_le_mul_of_nonpos_left hx h.1
    have h2:=Int.mul_le_mul_of_nonpos_left hx h.2
    rw[Int.max_eq_right (by omega)]
    omega
def pz (p q : P4):P4:=
  ⟨p.a*q.a - p.b*q.d - p.c*q.c - p.d*q.b,p.a*q.b+p.b*q.a - p.c*q.d - p.d*q.c,p.a*q.c+p.b*q.b+p.c*q.a - p.d*q.d,p.a*q.d+p.b*q.c+p.c*q.b+p.d*q.a⟩
theorem wr_wr (n : Int):wr (wr n)=wr n:=by
  have:=wr_bounds n
  exact wr_id this.1 this.2
theorem times_product (p q : P4):timesP p q=productR p q:=by
  unfold timesP productR
  simp only[Int.zero_add,wr_wr]
theorem mm {x u : Int} (hx:-1073741824≤x∧x≤1073741824) (h:-1073741824≤u∧u≤1073741824):-1152921504606846976≤x*u∧x*u≤1152921504606846976:=by
  have:=mb x h
  omega
theorem product_pz {p q : P4} (hp:p.within 1073741824) (hq:q.within 1073741824):productR p q=pz p q:=by
  obtain⟨pa,pb,pc,pd⟩:=hp
  obtain⟨qa,qb,qc,qd⟩:=hq
  have h1:=mm pa qa
  have h2:=mm pa qb
  have h3:=mm pa qc
  have h4:=mm pa qd
  have h5:=mm pb qa
  have h6:=mm pb qb
  have h7:=mm pb qc
  have h8:=mm pb qd
  have h9:=mm pc qa
  have h10:=mm pc qb
  have h11:=mm pc qc
  have h12:=mm pc qd
  have h13:=mm pd qa
  have h14:=mm pd qb
  have h15:=mm pd qc
  have h16:=mm pd qd
  unfold productR pz
  generalize p.a*q.a=x1 at *
  generalize p.a*q.b=x2 at *
  generalize p.a*q.c=x3 at *
  generalize p.a*q.d=x4 at *
  generalize p.b*q.a=x5 at *
  generalize p.b*q.b=x6 at *
  generalize p.b*q.c=x7 at *
  generalize p.b*q.d=x8 at *
  generalize p.c*q.a=x9 at *
  generalize p.c*q.b=x10 at *
  generalize p.c*q.c=x11 at *
  generalize p.c*q.d=x12 at *
  generalize p.d*q.a=x13 at *
  generalize p.d*q.b=x14 at *
  generalize p.d*q.c=x15 at *
  generalize p.d*q.d=x16 at *
  have w:∀ x:Int,-4611686018427387904≤x→x≤4611686018427387904→wr x=x:=fun x a b=>wr_id (by omega) (by omega)
  rw[w x1 (by omega) (by omega),w x2 (by omega) (by omega),w x3 (by omega) (by omega),w x4 (by omega) (by omega),w x5 (by omega) (by omega),w x6 (by omega) (by omega),w x7 (by omega) (by omega),w x8 (by omega) (by omega),
    w x9 (by omega) (by omega),w x10 (by omega) (by omega),w x11 (by omega) (by omega),w x12 (by omega) (by omega),w x13 (by omega) (by omega),w x14 (by omega) (by omega),w x15 (by omega) (by omega),w x16 (by omega) (by omega)]
  rw[w (x1 - x8) (by omega) (by omega),w (x1 - x8 - x11) (by omega) (by omega),w (x1 - x8 - x11 - x14) (by omega) (by omega),
    w (x2+x5) (by omega) (by omega),w (x2+x5 - x12) (by omega) (by omega),w (x2+x5 - x12 - x15) (by omega) (by omega),
    w (x3+x6) (by omega) (by omega),w (x3+x6+x9) (by omega) (by omega),w (x3+x6+x9 - x16) (by omega) (by omega),
    w (x4+x7) (by omega) (by omega),w (x4+x7+x10) (by omega) (by omega),w (x4+x7+x10+x13) (by omega) (by omega)]
theorem pz_fine {p q : P4} (hp:p.within 1073741824) (hq:q.within 1073741824):(pz p q).fine:=by
  obtain⟨pa,pb,pc,pd⟩:=hp
  obtain⟨qa,qb,qc,qd⟩:=hq
  have s1:=mb (p.a+p.c) qa
  have s2:=mb (p.a+p.c) qb
  have s3:=mb (p.a+p.c) qc
  have s4:=mb (p.a+p.c) qd
  have t1:=mb (p.a - p.c) qa
  have t2:=mb (p.a - p.c) qb
  have t3:=mb (p.a - p.c) qc
  have t4:=mb (p.a - p.c) qd
  have u1:=mb (p.b+p.d) qa
  have u2:=mb (p.b+p.d) qb
  have u3:=mb (p.b+p.d) qc
  have u4:=mb (p.b+p.d) qd
  have v1:=mb (p.b - p.d) qa
  have v2:=mb (p.b - p.d) qb
  have v3:=mb (p.b - p.d) qc
  have v4:=mb (p.b - p.d) qd
  have hs:max (p.a+p.c) (-(p.a+p.c))+max (p.a - p.c) (-(p.a - p.c))≤2147483648:=by omega
  have hu:max (p.b+p.d) (-(p.b+p.d))+max (p.b - p.d) (-(p.b - p.d))≤2147483648:=by omega
  generalize max (p.a+p.c) (-(p.a+p.c))=S at *
  generalize max (p.a - p.c) (-(p.a - p.c))=T at *
  generalize max (p.b+p.d) (-(p.b+p.d))=U at *
  generalize max (p.b - p.d) (-(p.b - p.d))=V at *
  rw[Int.add_mul] at s1 s2 s3 s4 u1 u2 u3 u4
  rw[Int.sub_mul] at t1 t2 t3 t4 v1 v2 v3 v4
  unfold P4.fine pz
  dsimp only
  clear pa pb pc pd qa qb qc qd
  generalize p.a*q.a=x1 at *
  generalize p.a*q.b=x2 at *
  generalize p.a*q.c=x3 at *
  generalize p.a*q.d=x4 at *
  generalize p.b*q.a=x5 at *
  generalize p.b*q.b=x6 at *
  generalize p.b*q.c=x7 at *
  generalize p.b*q.d=x8 at *
  generalize p.c*q.a=x9 at *
  generalize p.c*q.b=x10 at *
  generalize p.c*q.c=x11 at *
  generalize p.c*q.d=x12 at *
  generalize p.d*q.a=x13 at *
  generalize p.d*q.b=x14 at *
  generalize p.d*q.c=x15 at *
  generalize p.d*q.d=x16 at *
  refine⟨⟨?_,?_⟩,⟨?_,?_⟩,⟨?_,?_⟩,⟨?_,?_⟩⟩
  · clear s2 s3 s4 t1 t2 t4 u1 u2 u3 v1 v3 v4;omega
  · clear s2 s3 s4 t1 t2 t4 u1 u2 u3 v1 v3 v4;omega
  · clear s1 s2 s4 t2 t3 t4 u1 u3 u4 v1 v2 v3;omega
  · clear s1 s2 s4 t2 t3 t4 u1 u3 u4 v1 v2 v3;omega
  · clear s1 s3 s4 t1 t2 t3 u2 u3 u4 v1 v2 v4;omega
  · clear s1 s3 s4 t1 t2 t3 u2 u3 u4 v1 v2 v4;omega
  · clear s1 s2 s3 t1 t3 t4 u1 u2 u4 v2 v3 v4;omega
  · clear s1 s2 s3 t1 t3 t4 u1 u2 u4 v2 v3 v4;omega
theorem Mul_eq (x y : P4 × Int):MulF x y=MulR x y:=by
  unfold MulF MulR
  rw[errs_same]
  by_cases he:checks2 x y=0
  · rw[if_pos he,if_neg (show ¬ errsF [x,y] ≠ 0 by unfold checks2 at he;rw[he];simp)]
    obtain⟨hx,hy⟩:=checks2_zero he
    have rx:=checkF_range hx
    have ry:=checkF_range hy
    have wx:=(all_iff (by decide) (by decide)).1 rx.2.2
    have wy:=(all_iff (by decide) (by decide)).1 ry.2.2
    rw[wr_id (by omega) (by omega),times_product,product_pz wx wy]
    exact least_fits (pz_fine wx wy) (by omega)
  · rw[if_neg he,if_pos (show errsF [x,y] ≠ 0 from he)]
    rfl
theorem Conj_eq (x : P4 × Int):ConjF x=ConjR x:=by
  unfold ConjF ConjR
  rw[← checkF_checkR]
  by_cases he:checkF x.1 x.2=0
  · rw[if_pos he,if_neg (by rw[he];simp)]
    obtain⟨k1,k2,hp⟩:=checkF_range he
    have hw:=(all_iff (by decide) (by decide)).1 hp
    obtain⟨pa,pb,pc,pd⟩:=hw
    apply least_eq
    unfold checkF
    rw[show (decide (x.2 < 0) || decide (x.2 > 60))=false by simp;omega,(all_iff (by decide) (by decide)).2]
    · rfl
    · unfold P4.within conjP
      dsimp only
      rw[wr_id (by omega) (by omega),wr_id (by omega) (by omega),wr_id (by omega) (by omega)]
      omega
  · rw[if_neg he,if_pos he]
theorem dotStep_eq (o z : P4 × Int) (f:Bool) (w:P4 × Int):dotStep o z f w=dotStepR o z f w:=by
  unfold dotStep dotStepR
  simp only[Mul_eq,Add_eq]
theorem dot_eq {x y x' y' : Nat→P4 × Int}:∀ n,(∀ i,i < n→x i=x' i∧y i=y' i)→dotF x y n=dotR x' y' n
  | 0,_=>rfl
  | n+1,h=>by
    unfold dotF dotR
    rw[dot_eq n fun i hi=>h i (by omega),dotStep_eq,(h n (by omega)).1,(h n (by omega)).2]
theorem errV_eq (l : List (P4 × Int)):errV l=VectorR l:=by
  unfold errV VectorR sizedF
  rw[errs_same]
  by_cases h:l.length < 1∨64 < l.length
  · rw[if_pos h,if_neg]
    simp
    omega
  · rw[if_neg h,if_pos]
    simp
    omega
theorem Apply_eq (m : List (List (P4 × Int))) (l:List (P4 × Int)):ApplyF m l=ApplyR m l:=by
  unfold ApplyF ApplyR errsV
  rw[checkMF_checkMR]
  simp only[List.map_cons,List.map_nil,firstErr,errV_eq]
  by_cases h1:checkMR m ≠ 0
  · rw[if_pos h1,if_pos h1]
  · rw[if_neg h1,if_neg h1]
    have h1:checkMR m=0:=by simpa using h1
    obtain⟨m1,m2,m3,m4⟩:=checkMR_zero h1
    by_cases h2:VectorR l=0
    · rw[h2]
      simp only[if_true,ne_eq,not_true_eq_false,if_false]
      split
      · rfl
      · rename_i hw
        apply applyG_congr
        intro r hr
        have hr':=(m3 r hr).2.2
        rw[show r.length=l.length by unfold wideM at hw;omega]
        exact dot_eq _ fun i _=>⟨rfl,rfl⟩
    · rw[if_neg h2,if_pos h2,if_pos h2]
theorem Inner_eq (u v : List (P4 × Int)):InnerF u v=InnerR u v:=by
  unfold InnerF InnerR errsV
  simp only[List.map_cons,List.map_nil,firstErr,errV_eq]
  by_cases h1:VectorR u=0
  · simp only[h1,if_true,ne_eq,not_true_eq_false,if_false]
    by_cases h2:VectorR v=0
    · simp only[h2,if_true,not_true_eq_false,if_false]
      by_cases h3:u.length=v.length
      · simp only[h3,not_true_eq_false,if_false]
        rw[← h3]
        apply dot_eq
        intro i hi
        refine⟨?_,rfl⟩
        have:i < (conjL u).length:=by simpa[conjL] using hi
        rw[atL_get hi,atL_get this,Conj_eq]
        simp[conjL]
      · simp only[h3,not_false_eq_true,if_true]
    · simp only[h2,if_false,not_false_eq_true,if_true]
  · simp only[h1,if_false,ne_eq,not_false_eq_true,if_true]
end Go.Proofs.YtgbhgfdgifkdhaaGreat

namespace Go.Proofs.YtgbhgfdgifkdhaaGreat
open Go.Proofs.YtgbhgfdgifkdhaaGreat.X Go.Proofs.YtgbhgfdgifkdhaaGreat.X.PH
set_option maxRecDepth 100000
def gridM (F : Nat→Nat→(P4 × Int) × Int) (h w:Nat):List (List (P4 × Int)):=(List.range h).map fun i=>(List.range w).map fun k=>(F i k).1
theorem gridM_entry (F : Nat→Nat→(P4 × Int) × Int) {h w i k:Nat} (hi:i < h) (hk:k < w):entry (gridM F h w) i k=(F i k).1:=by
  unfold entry gridM
  simp[List.getD_eq_getElem?_getD,hi,hk]
theorem gridM_shape (F : Nat→Nat→(P4 × Int) × Int) (h w:Nat):(gridM F h w).length=h∧∀ (i:Nat) (r:List (P4 × Int)),(gridM F h w)[i]?=some r→r.length=w:=by
  refine⟨by simp[gridM],fun i r hr=>?_⟩
  unfold gridM at hr
  rw[List.getElem?_map] at hr
  obtain⟨a,_,rfl⟩:=Option.map_eq_some_iff.1 hr
  simp
theorem fills_grid (F : Nat→Nat→(P4 × Int) × Int) (h w:Nat):fills F h w (h*w)=gridM F h w:=
  fills_eq (gridM_shape F h w).1 (gridM_shape F h w).2 fun i k hi hk=>(gridM_entry F hi hk).symm
theorem grid_congr {F G : Nat→Nat→(P4 × Int) × Int} {h w:Nat} (he:∀ i k,i < h→k < w→F i k=G i k):gridM F h w=gridM G h w∧errsE F h w=errsE G h w:=by
  constructor
  · unfold gridM
    refine List.map_congr_left fun i hi=>List.map_congr_left fun k hk=>?_
    rw[he i k (List.mem_range.1 hi) (List.mem_range.1 hk)]
  · unfold errsE
    refine List.map_congr_left fun n hn=>?_
    have hn:=List.mem_range.1 hn
    have hw:0 < w:=by
      rcases Nat.eq_zero_or_pos w with h0 | h0
      · subst h0;omega
      · exact h0
    rw[he _ _ (Nat.div_lt_of_lt_mul (by rw[Nat.mul_comm];exact hn)) (Nat.mod_lt _ hw)]
theorem MadeH.congr {F G : Nat→Nat→(P4 × Int) × Int} {h w:Nat} {r:Value} {H:PH} (he:∀ i k,i < h→k < w→F i k=G i k) (m:MadeH F h w r H):MadeH G h w r H:=by
  obtain⟨e1,e2⟩:=grid_congr he
  unfold MadeH at *
  rw[fills_grid] at *
  rw[e1,e2] at m
  exact m
theorem MadeE.congr {F G : Nat→Nat→(P4 × Int) × Int} {h w:Nat} {r:Value} {H:PH} (he:∀ i k,i < h→k < w→F i k=G i k) (m:MadeE F h w r H):MadeE G h w r H:=by
  obtain⟨e1,e2⟩:=grid_congr he
  unfold MadeE at *
  rw[fills_grid] at *
  rw[e1,e2] at m
  exact m
structure GridO (H O : PH) (b0 h:Nat) (us:List Value) (m:List (List (P4 × Int))):Prop where
  rows:RowsH H us m
  list:O b0=some (.cells ⟨us++List.replicate (h - us.length) (.slice none 0 0)⟩ 31 (0,0))
structure GridC (H O : PH) (b0 h:Nat) (us:List Value) (m:List (List (P4 × Int))) (cur:Value) (l:List (P4 × Int)):Prop where
  rows:RowsH H us m
  lt:us.length < h
  list:O b0=some (.cells ⟨us++[cur]++List.replicate (h - (us.length+1)) (.slice none 0 0)⟩ 31 (0,0))
  row:NumO O cur l
theorem GridO.up {H H' O : PH} {b0 h:Nat} {us:List Value} {m:List (List (P4 × Int))} (g:GridO H O b0 h us m) (hs:Sub H H'):GridO H' O b0 h us m:=⟨g.rows.up hs,g.list⟩
theorem GridC.up {H H' O : PH} {b0 h:Nat} {us:List Value} {m:List (List (P4 × Int))} {cur:Value} {l:List (P4 × Int)} (g:GridC H O b0 h us m cur l) (hs:Sub H H'):GridC H' O b0 h us m cur l:=⟨g.rows.up hs,g.lt,g.list,g.row⟩
theorem GridO.start {H : PH} (b0 h:Nat) (O:PH):GridO H (ins O b0 (.cells ⟨(List.replicate h [Value.slice none 0 0]).flatten⟩ 31 (0,0))) b0 h [] []:=by
  refine⟨⟨rfl,by simp⟩,?_⟩
  rw[ins_same]
  simp
theorem GridO.next {H O : PH} {b0 h:Nat} {us:List Value} {m:List (List (P4 × Int))} (g:GridO H O b0 h us m) (hl:us.length < h):GridC H O b0 h us m (.slice none 0 0) []:=by
  refine⟨g.rows,hl,?_,by simp,.inl ⟨rfl,by simp⟩⟩
  have:=g.list
  rw[show h - us.length=(h - (us.length+1))+1 by omega,List.replicate_succ] at this
  rw[this]
  simp
theorem GridC.ne {H O : PH} {b0 h:Nat} {us:List Value} {m:List (List (P4 × Int))} {cur:Value} {l:List (P4 × Int)} (g:GridC H O b0 h us m cur l):∀ n cap,cur ≠ .slice (some ⟨b0,0,none⟩) n cap:=by
  intro n cap e
  rcases g.row.2 with⟨e',_⟩ | ⟨b',cap',spare,e',hO',_⟩
  · rw[e] at e';cases e'
  · rw[e] at e'
    cases e'
    rw[g.list] at hO'
    injection hO' with hO'
    injection hO' with _ hO'
    exact absurd hO' (by decide)
theorem GridC.rd {H O : PH} {b0 h:Nat} {us:List Value} {m:List (List (P4 × Int))} {cur:Value} {l:List (P4 × Int)} (g:GridC H O b0 h us m cur l) {i:Nat} (hi:i=us.length):Rd H O ⟨b0,0+i*1,none⟩ 1 [cur]:=by
  subst hi
  refine⟨rfl,rfl,_,_,_,.inr g.list,?_⟩
  simp
theorem GridC.step {H O O2 : PH} {b0 h:Nat} {us:List Value} {m:List (List (P4 × Int))} {cur v:Value} {l l':List (P4 × Int)} {i:Nat} (hi:i=us.length) (g:GridC H O b0 h us m cur l) (hv:NumO O2 v l')
    (hk:∀ n o,O n=some o→(∀ cap,cur ≠ .slice (some ⟨n,0,none⟩) (l.map cellsOf).length cap)→O2 n=some o) :
    ∃ cs,O2 b0=some (.cells ⟨cs⟩ 31 (0,0))∧0+i*1+1≤cs.length∧GridC H (ins O2 b0 (.cells ⟨cs.take (0+i*1)++[v]++cs.drop (0+i*1+1)⟩ 31 (0,0))) b0 h us m v l':=by
  subst hi
  refine⟨_,hk _ _ g.list fun cap=>g.ne _ _,by simp,g.rows,g.lt,?_,?_⟩
  · rw[ins_same]
    congr 3
    have e:(0+us.length*1)=us.length:=by omega
    rw[e,List.append_assoc us,List.take_left,← List.drop_drop,List.drop_left]
    simp
  · refine OwnS.keep hv fun n cs hn=>?_
    by_cases e:n=b0
    · subst e
      rw[hk _ _ g.list fun cap=>g.ne _ _] at hn
      cases hn
    · rw[ins_ne _ _ e];exact hn
theorem GridC.done {H O : PH} (hd:Dis H O) {b0 h:Nat} {us:List Value} {m:List (List (P4 × Int))} {cur:Value} {l:List (P4 × Int)} (g:GridC H O b0 h us m cur l) :
    ∃ H' O',Repart H O H' O'∧GridO H' O' b0 h (us++[cur]) (m++[l]):=by
  obtain⟨g1,g2,g3,h1,h⟩:=id g
  rcases h with⟨rfl,h⟩ | ⟨b,cap,spare,rfl,hO,hcap,hsp⟩
  · have:l=[]:=by simpa using h
    subst this
    refine⟨H,O,.refl hd,g1.snoc ⟨none,0,rfl,.inl ⟨rfl,rfl⟩⟩,?_⟩
    rw[g3]
    simp
  · have hs:=(Repart.one hd hO).sub
    refine⟨_,_,.one hd hO,(g1.up hs).snoc ⟨some ⟨b,0,none⟩,cap,by simp,.inr ⟨b,0,_,_,_,rfl,ins_same _ _ _,?_⟩⟩,?_⟩
    · simp[cellsN]
    · rw[del_ne _ (fun e=>by subst e;rw[g3] at hO;injection hO with hO;injection hO with _ hO;exact absurd hO (by decide)),g3]
      simp
theorem GridO.mat {H O : PH} (hd:Dis H O) {b0 h:Nat} {us:List Value} {m:List (List (P4 × Int))} (g:GridO H O b0 h us m) (hl:us.length=h) :
    ∃ H' O',Repart H O H' O'∧MatH H' (.slice (some ⟨b0,0,none⟩) h h) m:=by
  have hO:=g.list
  rw[hl,Nat.sub_self,List.replicate_zero,List.append_nil] at hO
  have hs:=(Repart.one hd hO).sub
  have hm:=g.rows.1
  refine⟨_,_,.one hd hO,us,hm,⟨some ⟨b0,0,none⟩,h,by rw[← hm,hl],.inr ⟨b0,0,_,_,_,rfl,ins_same _ _ _,by simp⟩⟩,fun i r u hr hu=>(g.rows.2 i r u hr hu).up hs⟩
theorem errsE_at {F : Nat→Nat→(P4 × Int) × Int} {h w i k:Nat} (hi:i < h) (hk:k < w) :
    firstErr ((errsE F h w).drop (i*w+k))=if (F i k).2=0 then firstErr ((errsE F h w).drop (i*w+(k+1))) else (F i k).2:=by
  have hlt:i*w+k < h*w:=by
    have:=Nat.mul_le_mul_right w (show i+1≤h by omega)
    rw[Nat.succ_mul] at this
    omega
  have:=errsE_step (F:=F) hlt
  rw[(divmod hk).1,(divmod hk).2] at this
  exact this
theorem errsE_end {F : Nat→Nat→(P4 × Int) × Int} {h w:Nat}:firstErr ((errsE F h w).drop (h*w))=0:=by
  rw[List.drop_of_length_le (by simp[errsE])]
  rfl
theorem Rd_up {H H' O : PH} {a:Addr} {sz:Nat} {cs:List Value} (h:Rd H emp a sz cs) (hs:Sub H H'):Rd H' O a sz cs:=by
  obtain⟨h1,h2,c,t,fr,h | h,h3⟩:=h
  · exact⟨h1,h2,c,t,fr,.inl (hs _ _ h),h3⟩
  · cases h
theorem MatH.at {H : PH} {base:Option Addr} {n cap:Nat} {m:List (List (P4 × Int))} (h:MatH H (.slice base n cap) m) {i:Nat} (hi:i < m.length) :
    ∃ b off base' cap',base=some ⟨b,off,none⟩∧(∀ H' O,Sub H H'→Rd H' O ⟨b,off+i*1,none⟩ 1 [.slice base' m[i].length cap'])∧NumH H (.slice base' m[i].length cap') m[i]:=by
  obtain⟨b,off,base',cap',h1,h2,h3⟩:=h.rd (O:=emp) hi
  exact⟨b,off,base',cap',h1,fun _ _ hs=>Rd_up h2 hs,h3⟩
theorem NumH.at {H : PH} {base:Option Addr} {n cap:Nat} {l:List (P4 × Int)} (h:NumH H (.slice base n cap) l) {i:Nat} (hi:i < l.length) :
    ∃ b off,base=some ⟨b,off,none⟩∧∀ H' O,Sub H H'→Rd H' O ⟨b,off+i*5,none⟩ 5 (cellsOf l[i]):=by
  obtain⟨_,b,off,h1,h2⟩:=h.rd (O:=emp) hi
  exact⟨b,off,h1,fun _ _ hs=>Rd_up h2 hs⟩
end Go.Proofs.YtgbhgfdgifkdhaaGreat

namespace Go.Proofs.YtgbhgfdgifkdhaaGreat
open Go.Proofs.YtgbhgfdgifkdhaaGreat.X Go.Proofs.YtgbhgfdgifkdhaaGreat.X.PH
set_option maxRecDepth 100000
abbrev Mx : Type:=List (List (P4 × Int))
def resM (e : Int) (F:Nat→Nat→(P4 × Int) × Int) (h w:Nat):Mx × Int:=
  if e ≠ 0 then ([],e) else if firstErr (errsE F h w) ≠ 0 then ([],firstErr (errsE F h w)) else (gridM F h w,0)
theorem resM_congr {e e' : Int} {F G:Nat→Nat→(P4 × Int) × Int} {h w:Nat} (h1:e=e') (h2:e=0→∀ i k,i < h→k < w→F i k=G i k):resM e F h w=resM e' G h w:=by
  subst h1
  unfold resM
  split
  · rfl
  · rename_i he
    obtain⟨e1,e2⟩:=grid_congr (h2 (by simpa using he))
    rw[e1,e2]
theorem resM_bad {e : Int} {F:Nat→Nat→(P4 × Int) × Int} {h w:Nat} (he:e ≠ 0):resM e F h w=([],e):=if_pos he
theorem resM_err {e : Int} {F:Nat→Nat→(P4 × Int) × Int} {h w:Nat} {x:Int} (he:e=0) (h1:firstErr (errsE F h w)=x) (hx:x ≠ 0):resM e F h w=([],x):=by
  unfold resM
  rw[if_neg (by simpa using he),if_pos (by rw[h1];exact hx),h1]
theorem resM_ok {e : Int} {F:Nat→Nat→(P4 × Int) × Int} {h w:Nat} (he:e=0) (h1:firstErr (errsE F h w)=0):resM e F h w=(gridM F h w,0):=by
  unfold resM
  rw[if_neg (by simpa using he),if_neg (by simpa using h1)]
def OutH (H : PH) (r:Value) (x:Mx × Int):Prop:=∃ u,r=.tuple #[u,.int .i64 x.2]∧MatH H u x.1
theorem OutH.bad {H : PH} {e:Int}:OutH H (.tuple #[.slice none 0 0,.int .i64 e]) ([],e):=⟨_,rfl,nilM H⟩
theorem OutH.up {H H' : PH} {r:Value} {x:Mx × Int} (h:OutH H r x) (hs:Sub H H'):OutH H' r x:=by
  obtain⟨u,h1,h2⟩:=h
  exact⟨u,h1,h2.up hs⟩
def gridRow (F : Nat→Nat→(P4 × Int) × Int) (i n:Nat):List (P4 × Int):=(List.range n).map fun k=>(F i k).1
theorem gridRow_succ (F : Nat→Nat→(P4 × Int) × Int) (i n:Nat):gridRow F i (n+1)=gridRow F i n++[(F i n).1]:=by
  unfold gridRow
  rw[List.range_succ,List.map_append]
  rfl
theorem gridM_succ (F : Nat→Nat→(P4 × Int) × Int) (n w:Nat):gridM F (n+1) w=gridM F n w++[gridRow F n w]:=by
  unfold gridM gridRow
  rw[List.range_succ,List.map_append]
  rfl
theorem OwnS.sl {O : PH} {sz:Nat} {t:TypeId} {v:Value} {xs:List (List Value)} (h:OwnS O sz t v xs):∃ base n cap,v=.slice base n cap:=by
  rcases h.2 with⟨h,_⟩ | ⟨b,cap,spare,h,_⟩
  · exact⟨_,_,_,h⟩
  · exact⟨_,_,_,h⟩
def bothErr (m n : Mx) (e:Int):Int:=if errsM [m,n] ≠ 0 then errsM [m,n] else e
def addErr (m n : Mx):Int:=bothErr m n (if alikeF m n then 0 else 7)
def addAtR (m n : Mx) (i k:Nat):(P4 × Int) × Int:=AddR (entry m i k) (entry n i k)
def AddMR (m n : Mx):Mx × Int:=resM (addErr m n) (addAtR m n) m.length (wideM m)
def polG : Tmp→Pol:=fun | 68=>.imm | _=>.loc
theorem c35 (m n : Mx) (H:PH) (u v:Value) (hu:MatH H u m) (hv:MatH H v n):Cl Tryz.prog 50 [u,v] H emp fun r H' _=>OutH H' r (AddMR m n):=by
  obtain⟨base,cap,rfl⟩:=hu.sl
  obtain⟨base',cap',rfl⟩:=hv.sl
  refine Cl_of (pol:=polG) Γok Tryz.func50 (by kernel_rfl) rfl ?_
  conv=>whnf
  refine (c95 m n _ _ _ hu hv).val fun H1 s1=>?_
  rw[bothR_eq]
  conv=>whnf
  refine if_intro (fun he=>?_) (fun he=>?_)
  · conv=>whnf
    have he:errsM [m,n] ≠ 0:=by simpa using he
    unfold AddMR addErr bothErr
    rw[if_pos he,resM_bad he]
    exact OutH.bad
  have he:errsM [m,n]=0:=by simpa using he
  obtain⟨rm,rn⟩:=rights_of he
  conv=>whnf
  refine (c97 m n rm.pos rn.pos _ _ _ (hu.up s1) (hv.up s1)).val fun H2 s2=>?_
  conv=>whnf
  refine if_intro (fun ha=>?_) (fun ha=>?_)
  · conv=>whnf
    have ha:alikeF m n=false:=by simpa using ha
    unfold AddMR addErr bothErr
    rw[if_neg (by simpa using he),ha,resM_bad (by decide)]
    exact OutH.bad
  have ha:alikeF m n=true:=by simpa using ha
  have hA:addErr m n=0:=by
    unfold addErr bothErr
    rw[if_neg (by simpa using he),ha]
    rfl
  obtain⟨e1,e2⟩:=alike_iff ha
  replace hu:=(hu.up s1).up s2
  replace hv:=(hv.up s1).up s2
  have hml:=rm.le
  have hwl:=rm.wle
  unfold AddMR
  generalize hF:addAtR m n=F
  conv=>whnf
  refine dec_intro (Int.le_refl _) ?_
  conv=>whnf
  refine dec_intro (by omega) ?_
  conv=>whnf
  refine dec_intro (by omega) ?_
  conv=>whnf
  intro b0 hb0 _
  conv=>whnf
  refine W_repart ?_
  refine W_loopX (pol:=polG) Γok (Nat × PH × List Value × PH) (fun i=>i.1≤m.length∧Sub H2 i.2.1∧firstErr (errsE F m.length (wideM m))=firstErr ((errsE F m.length (wideM m)).drop (i.1*wideM m))∧GridO i.2.1 i.2.2.2 b0 m.length i.2.2.1 (gridM F i.1 (wideM m))) (fun i=>m.length - i.1)
    (fun e i=>e=.exit 0∧Sub H2 i.2.1∧firstErr (errsE F m.length (wideM m))=0∧GridO i.2.1 i.2.2.2 b0 m.length i.2.2.1 (gridM F m.length (wideM m))) (fun i=>[(8,.v (.int .i64 i.1))]) (fun _=>[]) (fun i=>i.2.1) (fun i=>i.2.2.2) ⟨(0,H2,[],ins emp b0 (.cells ⟨(List.replicate m.length [Value.slice none 0 0]).flatten⟩ 31 (0,0))),⟨by simp,Sub.refl _,by simp,GridO.start b0 m.length emp⟩,rfl,rfl,?_⟩ ?_ ?_
  · conv=>whnf
    repeat (refine⟨rfl,?_⟩;conv=>whnf)
    exact trivial
  · rintro ⟨i,H',us,O'⟩ ⟨h1,h2,h3,h4⟩
    dsimp only at h1 h2 h3 h4
    conv=>whnf
    refine if_intro (fun h=>?_) (fun h=>?_)
    · have hi:i < m.length:=by simpa using h
      have hus:us.length=i:=by rw[h4.rows.1];simp[gridM]
      obtain⟨b,off,bb,cc,rfl,hrd,hn⟩:=(hu.up h2).at hi
      have hwi:m[i].length=wideM m:=rm.row _ (List.getElem_mem hi)
      conv=>whnf
      refine W_repart ?_
      refine W_loopX (pol:=polG) Γok (Nat × PH × Value × PH) (fun k=>k.1≤wideM m∧Sub H' k.2.1∧firstErr (errsE F m.length (wideM m))=firstErr ((errsE F m.length (wideM m)).drop (i*wideM m+k.1))∧GridC k.2.1 k.2.2.2 b0 m.length us (gridM F i (wideM m)) k.2.2.1 (gridRow F i k.1)) (fun k=>wideM m - k.1)
        (fun e k=>e=.exit 2∧Sub H' k.2.1∧firstErr (errsE F m.length (wideM m))=firstErr ((errsE F m.length (wideM m)).drop ((i+1)*wideM m))∧GridC k.2.1 k.2.2.2 b0 m.length us (gridM F i (wideM m)) k.2.2.1 (gridRow F i (wideM m))) (fun k=>[(9,.v (.int .i64 k.1))]) (fun _=>[]) (fun k=>k.2.1) (fun k=>k.2.2.2) ⟨(0,H',.slice none 0 0,O'),⟨by simp,Sub.refl _,h3,h4.next (by omega)⟩,rfl,rfl,?_⟩ ?_ ?_
      · conv=>whnf
        repeat (refine⟨rfl,?_⟩;conv=>whnf)
        exact trivial
      · rintro ⟨k,H3,cur,O3⟩ ⟨k1,k2,k3,k4⟩
        dsimp only at k1 k2 k3 k4
        conv=>whnf
        refine dec_intro (by omega) ?_
        conv=>whnf
        refine⟨_,hrd _ _ k2,?_⟩
        conv=>whnf
        refine if_intro (fun h=>?_) (fun h=>?_)
        · have hk:k < wideM m:=by rw[← hwi];simpa using h
          obtain⟨b1,off1,rfl,hx⟩:=hn.at (i:=k) (by omega)
          obtain⟨b2,off2,bb2,cc2,rfl,hrd2,hn2⟩:=(hv.up h2).at (i:=i) (by omega)
          have hwn:n[i].length=wideM n:=rn.row _ (List.getElem_mem _)
          obtain⟨b3,off3,rfl,hy⟩:=hn2.at (i:=k) (by omega)
          have hFik:F i k=AddR m[i][k] n[i][k]:=by
            rw[← hF]
            unfold addAtR
            rw[entry_get hi (by omega),entry_get (by omega) (by omega)]
          conv=>whnf
          refine W_draw (pol:=polG) Γok mixes [(0,.pendO),(1,.pendO),(2,.pendO),(3,.pendO),(4,.pendO),(5,.pendO),(6,.pendO),(7,.pendO),(8,.pendO),(9,.pendO),(10,.pendO),(11,.pendO),(12,.pendO),(13,.pendO),(14,.lock),(15,.pendO),(16,.pendO),(17,.pendH),(18,.late),(19,.lock),(20,.pendO)] 72 (by kernel_rfl) rfl ?_
          conv=>whnf
          refine dec_intro (by omega) ?_
          conv=>whnf
          refine⟨_,hrd _ _ k2,?_⟩
          conv=>whnf
          refine dec_intro (by omega) ?_
          conv=>whnf
          refine⟨_,hx _ _ k2,?_⟩
          conv=>whnf
          refine dec_intro (by omega) ?_
          conv=>whnf
          refine⟨_,hrd2 _ _ k2,?_⟩
          conv=>whnf
          refine dec_intro (by omega) ?_
          conv=>whnf
          refine⟨_,hy _ _ k2,?_⟩
          conv=>whnf
          refine (c105 m[i][k] n[i][k] _).val fun H4 s4=>?_
          rw[← hFik]
          conv=>whnf
          intro bx
          conv=>whnf
          refine if_intro (fun he=>?_) (fun he=>?_)
          · conv=>whnf
            have he:(F i k).2 ≠ 0:=by simpa using he
            refine .inl (.inl ?_)
            conv=>whnf
            refine .inl (.inl ?_)
            conv=>whnf
            rw[resM_err hA (x:=(F i k).2) (by rw[k3,errsE_at hi hk,if_neg he]) he]
            exact OutH.bad
          have he:(F i k).2=0:=by simpa using he
          replace k4:=k4.up s4
          conv=>whnf
          refine W_draw (pol:=polG) Γok mixes [(0,.pendH),(1,.pendH),(2,.pendO),(3,.pendO),(4,.pendO),(5,.pendO),(6,.pendO),(7,.lock),(8,.lock),(9,.pendO),(10,.lock)] 72 (by kernel_rfl) rfl ?_
          conv=>whnf
          refine dec_intro (by omega) ?_
          conv=>whnf
          refine⟨_,k4.rd hus.symm,?_⟩
          conv=>whnf
          intro b5 hb5 hO5
          conv=>whnf
          refine append_one' (xs:=(gridRow F i k).map cellsOf) (y:=cellsOf (F i k).1) k4.row rfl rfl (cellsOf_one _) ⟨_,_,_,rfl,rfl,Rd.whole (ins_same _ _ _)⟩ ?_ fun v2 O4 hO4 hkeep=>?_
          · simp[gridRow]
            omega
          obtain⟨vb,vn,vc,rfl⟩:=OwnS.sl hO4
          conv=>whnf
          refine dec_intro (by omega) ?_
          conv=>whnf
          obtain⟨cs,q1,q2,q3⟩:=k4.step (l':=gridRow F i (k+1)) hus.symm (by rw[gridRow_succ,NumO,List.map_append];exact hO4) hkeep
          refine⟨cs,_,q1,q2,?_⟩
          conv=>whnf
          have s5:=sub_ins H4 (.cells ⟨cellsOf (F i k).1⟩ 33 (0,0)) hb5
          refine⟨(k+1,ins H4 b5 (.cells ⟨cellsOf (F i k).1⟩ 33 (0,0)),.slice vb vn vc,_),⟨hk,k2.trans (s4.trans s5),?_,q3.up s5⟩,by dsimp only;omega,?_⟩
          · rw[k3,errsE_at hi hk,if_pos he]
          · conv=>whnf
            refine⟨rfl,rfl,?_⟩
            conv=>whnf
            repeat (refine⟨rfl,?_⟩;conv=>whnf)
            refine⟨by show En.v (.int .i64 (IntKind.i64.wrap (k+1)))=_;rw[wrap_id (by omega) (by omega)];rfl,?_⟩
            conv=>whnf
            repeat (refine⟨rfl,?_⟩;conv=>whnf)
            exact trivial
        · have hk:wideM m=k:=by
            have:¬ k < m[i].length:=by simpa using h
            omega
          conv=>whnf
          refine .inr ⟨(k,H3,cur,O3),⟨rfl,k2,?_,?_⟩,?_⟩
          · rw[k3,← hk,Nat.succ_mul]
          · rw[← hk] at k4
            rw[← hk]
            exact k4
          · conv=>whnf
            refine⟨rfl,rfl,?_⟩
            conv=>whnf
            repeat (refine⟨rfl,?_⟩;conv=>whnf)
            exact trivial
      · rintro e ⟨k,H3,cur,O3⟩ ⟨rfl,k2,k3,k4⟩
        dsimp only at k2 k3 k4
        refine .inr fun hd=>?_
        obtain⟨H4,O4,rp,g4⟩:=k4.done hd
        refine⟨H4,O4,rp,?_⟩
        conv=>whnf
        refine⟨(i+1,H4,us++[cur],O4),⟨hi,h2.trans (k2.trans rp.sub),k3,?_⟩,by dsimp only;omega,?_⟩
        · rw[gridM_succ];exact g4
        · conv=>whnf
          refine⟨rfl,rfl,?_⟩
          conv=>whnf
          repeat (refine⟨rfl,?_⟩;conv=>whnf)
          refine⟨by show En.v (.int .i64 (IntKind.i64.wrap (i+1)))=_;rw[wrap_id (by omega) (by omega)];rfl,?_⟩
          conv=>whnf
          repeat (refine⟨rfl,?_⟩;conv=>whnf)
          exact trivial
    · have hi:m.length=i:=by
        have:¬ i < m.length:=by simpa using h
        omega
      conv=>whnf
      refine .inr ⟨(i,H',us,O'),⟨rfl,h2,?_,?_⟩,?_⟩
      · rw[h3,← hi,errsE_end]
      · rw[← hi] at h4
        rw[← hi]
        exact h4
      · conv=>whnf
        refine⟨rfl,rfl,?_⟩
        conv=>whnf
        repeat (refine⟨rfl,?_⟩;conv=>whnf)
        exact trivial
  · rintro e ⟨i,H',us,O'⟩ ⟨rfl,h2,h3,h4⟩
    dsimp only at h2 h3 h4
    refine .inr fun hd=>?_
    obtain⟨H4,O4,rp,g4⟩:=h4.mat hd (by rw[h4.rows.1];simp[gridM])
    refine⟨H4,O4,rp,?_⟩
    conv=>whnf
    rw[resM_ok hA h3]
    exact⟨_,rfl,g4⟩
end Go.Proofs.YtgbhgfdgifkdhaaGreat

namespace Go.Proofs.YtgbhgfdgifkdhaaGreat
open Go.Proofs.YtgbhgfdgifkdhaaGreat.X Go.Proofs.YtgbhgfdgifkdhaaGreat.X.PH
set_option maxRecDepth 100000
def colL (n : Mx) (k:Nat):List (P4 × Int):=n.map fun r=>atL r k
theorem c107 (m : Mx) (k:Nat) (hm:m.length < 1000000) (hk:∀ r∈m,k < r.length) (H:PH) (v:Value) (hv:MatH H v m):Cl Tryz.prog 128 [v,.int .i64 k] H emp fun r _ M'=>NumO M' r (colL m k):=by
  obtain⟨base,cap,rfl⟩:=hv.sl
  refine Cl_of (pol:=fun | 21=>.imm | _=>.loc) Γok Tryz.func128 (by kernel_rfl) rfl ?_
  conv=>whnf
  refine W_loop (pol:=fun | 21=>.imm | _=>.loc) Γok (Nat × PH × Value × PH) (fun i=>i.1≤m.length∧Sub H i.2.1∧NumO i.2.2.2 i.2.2.1 (colL (m.take i.1) k)) (fun i=>m.length - i.1) (fun i=>[(6,.v (.int .i64 i.1)),(5,.v i.2.2.1)]) (fun _=>[]) (fun i=>i.2.1) (fun i=>i.2.2.2) ⟨(0,H,.slice none 0 0,emp),⟨by simp,Sub.refl _,?_⟩,rfl,rfl,?_⟩ ?_
  · exact⟨by simp[colL],.inl ⟨rfl,by simp[colL]⟩⟩
  · conv=>whnf
    repeat (refine⟨rfl,?_⟩;conv=>whnf)
    exact trivial
  · rintro ⟨i,H',out,O'⟩ ⟨h1,h2,h3⟩
    dsimp only at h1 h2 h3
    conv=>whnf
    refine if_intro (fun h=>?_) (fun h=>?_)
    · have hi:i < m.length:=by simpa using h
      have hki:=hk _ (List.getElem_mem hi)
      obtain⟨b,off,bb,cc,rfl,hrd,hn⟩:=hv.at hi
      obtain⟨b1,off1,rfl,hx⟩:=hn.at hki
      conv=>whnf
      refine dec_intro (by omega) ?_
      conv=>whnf
      refine⟨_,hrd _ _ h2,?_⟩
      conv=>whnf
      refine dec_intro (by omega) ?_
      conv=>whnf
      refine⟨_,hx _ _ h2,?_⟩
      conv=>whnf
      intro b2 hb2 hO2
      conv=>whnf
      refine append_one (xs:=(colL (m.take i) k).map cellsOf) (y:=cellsOf m[i][k]) h3 rfl rfl (cellsOf_one _) ⟨_,_,_,rfl,rfl,Rd.whole (ins_same _ _ _)⟩ ?_ fun v O2 hO2 hfr=>?_
      · have:(colL (m.take i) k).length≤m.length:=by simp[colL];omega
        simp only[List.length_map]
        omega
      conv=>whnf
      refine⟨(i+1,ins H' b2 (.cells ⟨cellsOf m[i][k]⟩ 33 (0,0)),v,O2),⟨hi,h2.trans (sub_ins _ _ hb2),?_⟩,by dsimp only;omega,?_⟩
      · dsimp only
        rw[List.take_succ_eq_append_getElem hi]
        show OwnS O2 5 33 v ((colL (m.take i++[m[i]]) k).map cellsOf)
        simp only[colL,List.map_append,List.map_cons,List.map_nil,atL_get hki] at hO2 ⊢
        exact hO2
      · conv=>whnf
        refine⟨rfl,rfl,?_⟩
        conv=>whnf
        repeat (refine⟨rfl,?_⟩;conv=>whnf)
        refine⟨by show En.v (.int .i64 (IntKind.i64.wrap (i+1)))=_;rw[wrap_id (by omega) (by omega)];rfl,?_⟩
        conv=>whnf
        repeat (refine⟨rfl,?_⟩;conv=>whnf)
        exact trivial
    · have hi:m.length≤i:=by simpa using h
      conv=>whnf
      rw[List.take_of_length_le hi] at h3
      exact h3
theorem c107' (m : Mx) (k:Nat) (hm:m.length < 1000000) (hk:∀ r∈m,k < r.length) (H:PH) (v:Value) (hv:MatH H v m):Cl Tryz.prog 128 [v,.int .i64 k] H emp fun r H' _=>NumH H' r (colL m k):=
  (c107 m k hm hk H v hv).repart fun _ _ _ _ hd h=>by
    obtain⟨H',M',h1,h2⟩:=NumO.pub hd h
    exact⟨H',M',h1,h2⟩
def mulErr (m n : Mx):Int:=bothErr m n (if wideM m=n.length then 0 else 7)
def mulAtR (m n : Mx) (i k:Nat):(P4 × Int) × Int:=dotR (atL (m.getD i [])) (atL (colL n k)) (m.getD i []).length
def MulMR (m n : Mx):Mx × Int:=resM (mulErr m n) (mulAtR m n) m.length (wideM n)
theorem c36 (m n : Mx) (H:PH) (u v:Value) (hu:MatH H u m) (hv:MatH H v n):Cl Tryz.prog 51 [u,v] H emp fun r H' _=>OutH H' r (MulMR m n):=by
  obtain⟨base,cap,rfl⟩:=hu.sl
  obtain⟨base',cap',rfl⟩:=hv.sl
  refine Cl_of (pol:=(fun | 63=>.imm | _=>.loc)) Γok Tryz.func51 (by kernel_rfl) rfl ?_
  conv=>whnf
  refine (c95 m n _ _ _ hu hv).val fun H1 s1=>?_
  rw[bothR_eq]
  conv=>whnf
  refine if_intro (fun he=>?_) (fun he=>?_)
  · conv=>whnf
    have he:errsM [m,n] ≠ 0:=by simpa using he
    unfold MulMR mulErr bothErr
    rw[if_pos he,resM_bad he]
    exact OutH.bad
  have he:errsM [m,n]=0:=by simpa using he
  obtain⟨rm,rn⟩:=rights_of he
  replace hu:=hu.up s1
  replace hv:=hv.up s1
  obtain⟨b,off,bb,cc,rfl,hrd0,_⟩:=hu.at rm.pos
  rw[← wideM_get rm.pos] at hrd0
  obtain⟨b',off',bb',cc',rfl,hrdn,_⟩:=hv.at rn.pos
  rw[← wideM_get rn.pos] at hrdn
  have hml:=rm.le
  have hwl:=rm.wle
  have hmp:=rm.pos
  have hnl:=rn.le
  have hnwl:=rn.wle
  have hnp:=rn.pos
  conv=>whnf
  refine dec_intro (by omega) ?_
  conv=>whnf
  refine⟨_,hrd0 _ _ (Sub.refl _),?_⟩
  conv=>whnf
  refine if_intro (fun hw=>?_) (fun hw=>?_)
  · conv=>whnf
    have hw:wideM m ≠ n.length:=fun e=>by rw[e] at hw;simp at hw
    unfold MulMR mulErr bothErr
    rw[if_neg (by simpa using he),if_neg hw,resM_bad (by decide)]
    exact OutH.bad
  have hw:wideM m=n.length:=by
    have:((wideM m:Nat):Int)=n.length:=by simpa using hw
    omega
  have hA:mulErr m n=0:=by
    unfold mulErr bothErr
    rw[if_neg (by simpa using he),if_pos hw]
  unfold MulMR
  generalize hF:mulAtR m n=F
  conv=>whnf
  refine dec_intro (Int.le_refl _) ?_
  conv=>whnf
  refine dec_intro (by omega) ?_
  conv=>whnf
  refine dec_intro (by omega) ?_
  conv=>whnf
  intro b0 hb0 _
  conv=>whnf
  refine W_repart ?_
  refine W_loopX (pol:=(fun | 63=>.imm | _=>.loc)) Γok (Nat × PH × List Value × PH) (fun i=>i.1≤m.length∧Sub H1 i.2.1∧firstErr (errsE F m.length (wideM n))=firstErr ((errsE F m.length (wideM n)).drop (i.1*(wideM n)))∧GridO i.2.1 i.2.2.2 b0 m.length i.2.2.1 (gridM F i.1 (wideM n))) (fun i=>m.length - i.1)
    (fun e i=>e=.exit 0∧Sub H1 i.2.1∧firstErr (errsE F m.length (wideM n))=0∧GridO i.2.1 i.2.2.2 b0 m.length i.2.2.1 (gridM F m.length (wideM n))) (fun i=>[(8,.v (.int .i64 i.1))]) (fun _=>[]) (fun i=>i.2.1) (fun i=>i.2.2.2) ⟨(0,H1,[],ins emp b0 (.cells ⟨(List.replicate m.length [Value.slice none 0 0]).flatten⟩ 31 (0,0))),⟨by simp,Sub.refl _,by simp,GridO.start b0 m.length emp⟩,rfl,rfl,?_⟩ ?_ ?_
  · conv=>whnf
    repeat (refine⟨rfl,?_⟩;conv=>whnf)
    exact trivial
  · rintro ⟨i,H',us,O'⟩ ⟨h1,h2,h3,h4⟩
    dsimp only at h1 h2 h3 h4
    conv=>whnf
    refine if_intro (fun h=>?_) (fun h=>?_)
    · have hi:i < m.length:=by simpa using h
      have hus:us.length=i:=by rw[h4.rows.1];simp[gridM]
      obtain⟨b2,off2,bb2,cc2,hbe,hrd,hn⟩:=(hu.up h2).at hi
      cases hbe
      have hwi:m[i].length=wideM m:=rm.row _ (List.getElem_mem hi)
      conv=>whnf
      refine W_repart ?_
      refine W_loopX (pol:=(fun | 63=>.imm | _=>.loc)) Γok (Nat × PH × Value × PH) (fun k=>k.1≤(wideM n)∧Sub H' k.2.1∧firstErr (errsE F m.length (wideM n))=firstErr ((errsE F m.length (wideM n)).drop (i*(wideM n)+k.1))∧GridC k.2.1 k.2.2.2 b0 m.length us (gridM F i (wideM n)) k.2.2.1 (gridRow F i k.1)) (fun k=>(wideM n) - k.1)
        (fun e k=>e=.exit 2∧Sub H' k.2.1∧firstErr (errsE F m.length (wideM n))=firstErr ((errsE F m.length (wideM n)).drop ((i+1)*(wideM n)))∧GridC k.2.1 k.2.2.2 b0 m.length us (gridM F i (wideM n)) k.2.2.1 (gridRow F i (wideM n))) (fun k=>[(9,.v (.int .i64 k.1))]) (fun _=>[]) (fun k=>k.2.1) (fun k=>k.2.2.2) ⟨(0,H',.slice none 0 0,O'),⟨by simp,Sub.refl _,h3,h4.next (by omega)⟩,rfl,rfl,?_⟩ ?_ ?_
      · conv=>whnf
        repeat (refine⟨rfl,?_⟩;conv=>whnf)
        exact trivial
      · rintro ⟨k,H3,cur,O3⟩ ⟨k1,k2,k3,k4⟩
        dsimp only at k1 k2 k3 k4
        conv=>whnf
        refine dec_intro (by omega) ?_
        conv=>whnf
        refine⟨_,hrdn _ _ (h2.trans k2),?_⟩
        conv=>whnf
        refine if_intro (fun h=>?_) (fun h=>?_)
        · have hk:k < (wideM n):=by
            have:(k:Int) < (((wideM n):Nat):Int):=by simpa using h
            omega
          have hFik:F i k=dotR (atL m[i]) (atL (colL n k)) m[i].length:=by
            rw[← hF]
            unfold mulAtR
            rw[show m.getD i []=m[i] by simp[List.getD_eq_getElem?_getD,hi]]
          conv=>whnf
          refine W_draw (pol:=(fun | 63=>.imm | _=>.loc)) Γok mixes [(0,.pend),(1,.pend),(2,.pend),(3,.pend),(4,.pendO),(5,.pendO),(6,.lock),(7,.lock),(8,.pendO),(9,.pendO),(10,.pendH),(11,.late),(12,.lock),(13,.pendO)] 67 (by kernel_rfl) rfl ?_
          conv=>whnf
          refine dec_intro (by omega) ?_
          conv=>whnf
          refine⟨_,hrd _ _ k2,?_⟩
          conv=>whnf
          refine (c107' n k (by omega) (fun r hr=>by have:=rn.row r hr;omega) _ _ ((hv.up h2).up k2)).use fun col H4a s4a hcol=>?_
          obtain⟨_,hcol⟩:=hcol
          conv=>whnf
          refine (c106 m[i] (colL n k) (by omega) (by simp[colL];omega) _ _ _ ((hn.up k2).up s4a) hcol).val fun H4 s4b=>?_
          have s4:=s4a.trans s4b
          rw[← hFik]
          conv=>whnf
          intro bx
          conv=>whnf
          refine if_intro (fun he=>?_) (fun he=>?_)
          · conv=>whnf
            have he:(F i k).2 ≠ 0:=by simpa using he
            refine .inl (.inl ?_)
            conv=>whnf
            refine .inl (.inl ?_)
            conv=>whnf
            rw[resM_err hA (x:=(F i k).2) (by rw[k3,errsE_at hi hk,if_neg he]) he]
            exact OutH.bad
          have he:(F i k).2=0:=by simpa using he
          replace k4:=k4.up s4
          conv=>whnf
          refine W_draw (pol:=(fun | 63=>.imm | _=>.loc)) Γok mixes [(0,.pendH),(1,.pendH),(2,.pendO),(3,.pendO),(4,.pendO),(5,.pendO),(6,.pendO),(7,.lock),(8,.lock),(9,.pendO),(10,.lock)] 67 (by kernel_rfl) rfl ?_
          conv=>whnf
          refine dec_intro (by omega) ?_
          conv=>whnf
          refine⟨_,k4.rd hus.symm,?_⟩
          conv=>whnf
          intro b5 hb5 hO5
          conv=>whnf
          refine append_one' (xs:=(gridRow F i k).map cellsOf) (y:=cellsOf (F i k).1) k4.row rfl rfl (cellsOf_one _) ⟨_,_,_,rfl,rfl,Rd.whole (ins_same _ _ _)⟩ ?_ fun v2 O4 hO4 hkeep=>?_
          · simp[gridRow]
            omega
          obtain⟨vb,vn,vc,rfl⟩:=OwnS.sl hO4
          conv=>whnf
          refine dec_intro (by omega) ?_
          conv=>whnf
          obtain⟨cs,q1,q2,q3⟩:=k4.step (l':=gridRow F i (k+1)) hus.symm (by rw[gridRow_succ,NumO,List.map_append];exact hO4) hkeep
          refine⟨cs,_,q1,q2,?_⟩
          conv=>whnf
          have s5:=sub_ins H4 (.cells ⟨cellsOf (F i k).1⟩ 33 (0,0)) hb5
          refine⟨(k+1,ins H4 b5 (.cells ⟨cellsOf (F i k).1⟩ 33 (0,0)),.slice vb vn vc,_),⟨hk,k2.trans (s4.trans s5),?_,q3.up s5⟩,by dsimp only;omega,?_⟩
          · rw[k3,errsE_at hi hk,if_pos he]
          · conv=>whnf
            refine⟨rfl,rfl,?_⟩
            conv=>whnf
            repeat (refine⟨rfl,?_⟩;conv=>whnf)
            refine⟨by show En.v (.int .i64 (IntKind.i64.wrap (k+1)))=_;rw[wrap_id (by omega) (by omega)];rfl,?_⟩
            conv=>whnf
            repeat (refine⟨rfl,?_⟩;conv=>whnf)
            exact trivial
        · have hk:(wideM n)=k:=by
            have:¬ (k:Int) < (((wideM n):Nat):Int):=by simpa using h
            omega
          conv=>whnf
          refine .inr ⟨(k,H3,cur,O3),⟨rfl,k2,?_,?_⟩,?_⟩
          · rw[k3,← hk,Nat.succ_mul]
          · rw[← hk] at k4
            rw[← hk]
            exact k4
          · conv=>whnf
            refine⟨rfl,rfl,?_⟩
            conv=>whnf
            repeat (refine⟨rfl,?_⟩;conv=>whnf)
            exact trivial
      · rintro e ⟨k,H3,cur,O3⟩ ⟨rfl,k2,k3,k4⟩
        dsimp only at k2 k3 k4
        refine .inr fun hd=>?_
        obtain⟨H4,O4,rp,g4⟩:=k4.done hd
        refine⟨H4,O4,rp,?_⟩
        conv=>whnf
        refine⟨(i+1,H4,us++[cur],O4),⟨hi,h2.trans (k2.trans rp.sub),k3,?_⟩,by dsimp only;omega,?_⟩
        · rw[gridM_succ];exact g4
        · conv=>whnf
          refine⟨rfl,rfl,?_⟩
          conv=>whnf
          repeat (refine⟨rfl,?_⟩;conv=>whnf)
          refine⟨by show En.v (.int .i64 (IntKind.i64.wrap (i+1)))=_;rw[wrap_id (by omega) (by omega)];rfl,?_⟩
          conv=>whnf
          repeat (refine⟨rfl,?_⟩;conv=>whnf)
          exact trivial
    · have hi:m.length=i:=by
        have:¬ (i:Int) < ((m.length:Nat):Int):=by simpa using h
        omega
      conv=>whnf
      refine .inr ⟨(i,H',us,O'),⟨rfl,h2,?_,?_⟩,?_⟩
      · rw[h3,← hi,errsE_end]
      · rw[← hi] at h4
        rw[← hi]
        exact h4
      · conv=>whnf
        refine⟨rfl,rfl,?_⟩
        conv=>whnf
        repeat (refine⟨rfl,?_⟩;conv=>whnf)
        exact trivial
  · rintro e ⟨i,H',us,O'⟩ ⟨rfl,h2,h3,h4⟩
    dsimp only at h2 h3 h4
    refine .inr fun hd=>?_
    obtain⟨H4,O4,rp,g4⟩:=h4.mat hd (by rw[h4.rows.1];simp[gridM])
    refine⟨H4,O4,rp,?_⟩
    conv=>whnf
    rw[resM_ok hA h3]
    exact⟨_,rfl,g4⟩
end Go.Proofs.YtgbhgfdgifkdhaaGreat

namespace Go.Proofs.YtgbhgfdgifkdhaaGreat
open Go.Proofs.YtgbhgfdgifkdhaaGreat.X Go.Proofs.YtgbhgfdgifkdhaaGreat.X.PH
set_option maxRecDepth 100000
def kronErr (m n : Mx):Int:=bothErr m n (if m.length*n.length≤64∧wideM m*wideM n≤64 then 0 else 2)
def kronAtR (m n : Mx) (i k:Nat):(P4 × Int) × Int:=MulR (entry m (i / n.length) (k / wideM n)) (entry n (i % n.length) (k % wideM n))
def KronMR (m n : Mx):Mx × Int:=resM (kronErr m n) (kronAtR m n) (m.length*n.length) (wideM m*wideM n)
set_option maxHeartbeats 2000000 in
theorem c37 (m n : Mx) (H:PH) (u v:Value) (hu:MatH H u m) (hv:MatH H v n):Cl Tryz.prog 52 [u,v] H emp fun r H' _=>OutH H' r (KronMR m n):=by
  obtain⟨base,cap,rfl⟩:=hu.sl
  obtain⟨base',cap',rfl⟩:=hv.sl
  refine Cl_of (pol:=(fun | 105=>.imm | _=>.loc)) Γok Tryz.func52 (by kernel_rfl) rfl ?_
  conv=>whnf
  refine (c95 m n _ _ _ hu hv).val fun H1 s1=>?_
  rw[bothR_eq]
  conv=>whnf
  refine if_intro (fun he=>?_) (fun he=>?_)
  · conv=>whnf
    have he:errsM [m,n] ≠ 0:=by simpa using he
    unfold KronMR kronErr bothErr
    rw[if_pos he,resM_bad he]
    exact OutH.bad
  have he:errsM [m,n]=0:=by simpa using he
  obtain⟨rm,rn⟩:=rights_of he
  replace hu:=hu.up s1
  replace hv:=hv.up s1
  obtain⟨b,off,bb,cc,rfl,hrd0,_⟩:=hu.at rm.pos
  rw[← wideM_get rm.pos] at hrd0
  obtain⟨b',off',bb',cc',rfl,hrdn,_⟩:=hv.at rn.pos
  rw[← wideM_get rn.pos] at hrdn
  have hml:=rm.le
  have hwl:=rm.wle
  have hmp:=rm.pos
  have hnl:=rn.le
  have hnwl:=rn.wle
  have hnp:=rn.pos
  have hnwp:=rn.wpos
  have p1:m.length*n.length≤64*64:=Nat.mul_le_mul rm.le rn.le
  have p2:wideM m*wideM n≤64*64:=Nat.mul_le_mul rm.wle rn.wle
  have wq:∀ q:Nat,q < 65→IntKind.i64.wrap (q:Int)=q:=fun q h=>wrap_id (by omega) (by omega)
  unfold KronMR
  generalize hF:kronAtR m n=F
  obtain⟨hg,hhg⟩:∃ x,x=m.length*n.length:=⟨_,rfl⟩
  obtain⟨wg,hwg⟩:∃ x,x=wideM m*wideM n:=⟨_,rfl⟩
  rw[← hhg,← hwg]
  have q1:IntKind.i64.wrap ((m.length:Int)*(n.length:Int))=(hg:Int):=by
    rw[← Int.natCast_mul,← hhg];exact wrap_id (by omega) (by omega)
  have q2:IntKind.i64.wrap ((wideM m:Int)*(wideM n:Int))=(wg:Int):=by
    rw[← Int.natCast_mul,← hwg];exact wrap_id (by omega) (by omega)
  rw[← hhg] at p1
  rw[← hwg] at p2
  conv=>whnf
  refine W_draw (pol:=(fun | 105=>.imm | _=>.loc)) Γok mixes [(0,.pendO),(1,.pendO),(2,.pendO),(3,.pendO),(4,.pendO),(5,.pendO),(6,.pendO),(7,.pendO),(8,.pendO),(9,.pendO),(10,.pendO),(11,.pendO),(12,.pendO),(13,.pendO),(14,.pendO),(15,.pendO),(16,.pendO),(17,.pendO)] 109 (by kernel_rfl) rfl ?_
  conv=>whnf
  rw[q1]
  refine if_intro (fun h64=>?_) (fun h64=>?_)
  · conv=>whnf
    have h64:¬ hg≤64:=by have:=of_decide_eq_true h64;omega
    unfold kronErr bothErr
    rw[if_neg (by simpa using he),if_neg (by rw[← hhg];exact fun h=>h64 h.1),resM_bad (by decide)]
    exact OutH.bad
  have h64:hg≤64:=by have:=of_decide_eq_false h64;omega
  conv=>whnf
  refine dec_intro (by omega) ?_
  conv=>whnf
  refine⟨_,hrd0 _ _ (Sub.refl _),?_⟩
  conv=>whnf
  refine dec_intro (by omega) ?_
  conv=>whnf
  refine⟨_,hrdn _ _ (Sub.refl _),?_⟩
  conv=>whnf
  rw[q2]
  refine if_intro (fun h65=>?_) (fun h65=>?_)
  · conv=>whnf
    have h65:¬ wg≤64:=by have:=of_decide_eq_true h65;omega
    unfold kronErr bothErr
    rw[if_neg (by simpa using he),if_neg (by rw[← hwg];exact fun h=>h65 h.2),resM_bad (by decide)]
    exact OutH.bad
  have h65:wg≤64:=by have:=of_decide_eq_false h65;omega
  have hA:kronErr m n=0:=by
    unfold kronErr bothErr
    rw[if_neg (by simpa using he),if_pos (by rw[← hhg,← hwg];exact⟨h64,h65⟩)]
  conv=>whnf
  rw[q1]
  refine dec_intro (by omega) ?_
  conv=>whnf
  refine dec_intro (by omega) ?_
  conv=>whnf
  refine dec_intro (by omega) ?_
  conv=>whnf
  intro b0 hb0 _
  conv=>whnf
  refine W_repart ?_
  refine W_loopX (pol:=(fun | 105=>.imm | _=>.loc)) Γok (Nat × PH × List Value × PH) (fun i=>i.1≤hg∧Sub H1 i.2.1∧firstErr (errsE F hg wg)=firstErr ((errsE F hg wg).drop (i.1*wg))∧GridO i.2.1 i.2.2.2 b0 hg i.2.2.1 (gridM F i.1 wg)) (fun i=>hg - i.1)
    (fun e i=>e=.exit 0∧Sub H1 i.2.1∧firstErr (errsE F hg wg)=0∧GridO i.2.1 i.2.2.2 b0 hg i.2.2.1 (gridM F hg wg)) (fun i=>[(8,.v (.int .i64 i.1))]) (fun _=>[]) (fun i=>i.2.1) (fun i=>i.2.2.2) ⟨(0,H1,[],ins emp b0 (.cells ⟨(List.replicate hg [Value.slice none 0 0]).flatten⟩ 31 (0,0))),⟨by simp,Sub.refl _,by simp,GridO.start b0 hg emp⟩,rfl,rfl,?_⟩ ?_ ?_
  · conv=>whnf
    repeat (refine⟨rfl,?_⟩;conv=>whnf)
    exact trivial
  · rintro ⟨i,H',us,O'⟩ ⟨h1,h2,h3,h4⟩
    dsimp only at h1 h2 h3 h4
    conv=>whnf
    refine if_intro (fun h=>?_) (fun h=>?_)
    · have hi:i < hg:=by simpa using h
      have hus:us.length=i:=by rw[h4.rows.1];simp[gridM]
      have i1:i / n.length < m.length:=Nat.div_lt_of_lt_mul (by rw[Nat.mul_comm,← hhg];exact hi)
      have i2:i % n.length < n.length:=Nat.mod_lt _ hnp
      obtain⟨b1,off1,bb1,cc1,hbe,hrd1,hn1⟩:=(hu.up h2).at i1
      cases hbe
      obtain⟨b2,off2,bb2,cc2,hbe,hrd2,hn2⟩:=(hv.up h2).at i2
      cases hbe
      have r1:m[i / n.length].length=wideM m:=rm.row _ (List.getElem_mem i1)
      have r2:n[i % n.length].length=wideM n:=rn.row _ (List.getElem_mem i2)
      have q3:IntKind.i64.wrap ((i:Int).tdiv (n.length:Int))=((i / n.length:Nat):Int):=by
        rw[Int.tdiv_eq_ediv_of_nonneg (by omega),← Int.natCast_ediv];exact wq _ (by omega)
      have q5:((i:Int).tmod (n.length:Int))=((i % n.length:Nat):Int):=by rw[Int.tmod_eq_emod_of_nonneg (by omega)];rfl
      conv=>whnf
      refine W_repart ?_
      refine W_loopX (pol:=(fun | 105=>.imm | _=>.loc)) Γok (Nat × PH × Value × PH) (fun k=>k.1≤wg∧Sub H' k.2.1∧firstErr (errsE F hg wg)=firstErr ((errsE F hg wg).drop (i*wg+k.1))∧GridC k.2.1 k.2.2.2 b0 hg us (gridM F i wg) k.2.2.1 (gridRow F i k.1)) (fun k=>wg - k.1)
        (fun e k=>e=.exit 2∧Sub H' k.2.1∧firstErr (errsE F hg wg)=firstErr ((errsE F hg wg).drop ((i+1)*wg))∧GridC k.2.1 k.2.2.2 b0 hg us (gridM F i wg) k.2.2.1 (gridRow F i wg)) (fun k=>[(9,.v (.int .i64 k.1))]) (fun _=>[]) (fun k=>k.2.1) (fun k=>k.2.2.2) ⟨(0,H',.slice none 0 0,O'),⟨by simp,Sub.refl _,h3,h4.next (by omega)⟩,rfl,rfl,?_⟩ ?_ ?_
      · conv=>whnf
        repeat (refine⟨rfl,?_⟩;conv=>whnf)
        exact trivial
      · rintro ⟨k,H3,cur,O3⟩ ⟨k1,k2,k3,k4⟩
        dsimp only at k1 k2 k3 k4
        conv=>whnf
        refine W_draw (pol:=(fun | 105=>.imm | _=>.loc)) Γok mixes [(0,.pendO),(1,.pendO),(2,.pendO),(3,.pendO),(4,.pendO),(5,.pendO),(6,.pendO),(7,.pendO),(8,.pendO),(9,.pendO),(10,.pendO)] 109 (by kernel_rfl) rfl ?_
        conv=>whnf
        refine dec_intro (by omega) ?_
        conv=>whnf
        refine⟨_,hrd0 _ _ (h2.trans k2),?_⟩
        conv=>whnf
        refine dec_intro (by omega) ?_
        conv=>whnf
        refine⟨_,hrdn _ _ (h2.trans k2),?_⟩
        conv=>whnf
        rw[q2]
        conv=>whnf
        refine if_intro (fun h=>?_) (fun h=>?_)
        · have hk:k < wg:=by
            have:(k:Int) < ((wg:Nat):Int):=by simpa using h
            omega
          have kk1:k / wideM n < wideM m:=Nat.div_lt_of_lt_mul (by rw[Nat.mul_comm,← hwg];exact hk)
          have kk2:k % wideM n < wideM n:=Nat.mod_lt _ hnwp
          obtain⟨b3,off3,rfl,hx⟩:=hn1.at (i:=k / wideM n) (by omega)
          obtain⟨b4,off4,rfl,hy⟩:=hn2.at (i:=k % wideM n) (by omega)
          have q4:IntKind.i64.wrap ((k:Int).tdiv (wideM n:Int))=((k / wideM n:Nat):Int):=by
            rw[Int.tdiv_eq_ediv_of_nonneg (by omega),← Int.natCast_ediv];exact wq _ (by omega)
          have q6:((k:Int).tmod (wideM n:Int))=((k % wideM n:Nat):Int):=by rw[Int.tmod_eq_emod_of_nonneg (by omega)];rfl
          have hFik:F i k=MulR m[i / n.length][k / wideM n] n[i % n.length][k % wideM n]:=by
            rw[← hF]
            unfold kronAtR
            rw[entry_get i1 (by omega),entry_get i2 (by omega)]
          conv=>whnf
          refine W_draw (pol:=(fun | 105=>.imm | _=>.loc)) Γok mixes [(0,.pendO),(1,.pendO),(2,.pendO),(3,.pendO),(4,.pendO),(5,.pendO),(6,.pendO),(7,.pendO),(8,.pendO),(9,.pendO),(10,.pendO),(11,.pendO),(12,.pendO),(13,.pendO),(14,.pendO),(15,.pendO),(16,.pendO),(17,.pendO),(18,.pendO),(19,.pendO),(20,.pendO),(21,.pendO),(22,.pendO),(23,.pendO),(24,.pendO),(25,.pendO),(26,.pendO),(27,.pendO),(28,.pendO),(29,.pendO),(30,.lock),(31,.pendO),(32,.pendO),(33,.pendH),(34,.late),(35,.lock),(36,.pendO)] 109 (by kernel_rfl) rfl ?_
          conv=>whnf
          refine dec_intro (by omega) ?_
          conv=>whnf
          rw[q3]
          conv=>whnf
          refine dec_intro (by omega) ?_
          conv=>whnf
          refine⟨_,hrd1 _ _ k2,?_⟩
          conv=>whnf
          refine dec_intro (by omega) ?_
          conv=>whnf
          refine⟨_,hrdn _ _ (h2.trans k2),?_⟩
          conv=>whnf
          refine dec_intro (by omega) ?_
          conv=>whnf
          rw[q4]
          conv=>whnf
          refine dec_intro (by omega) ?_
          conv=>whnf
          refine⟨_,hx _ _ k2,?_⟩
          conv=>whnf
          refine dec_intro (by omega) ?_
          conv=>whnf
          rw[q5]
          conv=>whnf
          refine dec_intro (by omega) ?_
          conv=>whnf
          refine⟨_,hrd2 _ _ k2,?_⟩
          conv=>whnf
          refine dec_intro (by omega) ?_
          conv=>whnf
          refine⟨_,hrdn _ _ (h2.trans k2),?_⟩
          conv=>whnf
          refine dec_intro (by omega) ?_
          conv=>whnf
          rw[q6]
          conv=>whnf
          refine dec_intro (by omega) ?_
          conv=>whnf
          refine⟨_,hy _ _ k2,?_⟩
          conv=>whnf
          refine (c98 m[i / n.length][k / wideM n] n[i % n.length][k % wideM n] _).val fun H4 s4=>?_
          rw[← hFik]
          conv=>whnf
          intro bx
          conv=>whnf
          refine if_intro (fun he=>?_) (fun he=>?_)
          · conv=>whnf
            have he:(F i k).2 ≠ 0:=by simpa using he
            refine .inl (.inl ?_)
            conv=>whnf
            refine .inl (.inl ?_)
            conv=>whnf
            rw[resM_err hA (x:=(F i k).2) (by rw[k3,errsE_at hi hk,if_neg he]) he]
            exact OutH.bad
          have he:(F i k).2=0:=by simpa using he
          replace k4:=k4.up s4
          conv=>whnf
          refine W_draw (pol:=(fun | 105=>.imm | _=>.loc)) Γok mixes [(0,.pendH),(1,.pendH),(2,.pendO),(3,.pendO),(4,.pendO),(5,.pendO),(6,.pendO),(7,.lock),(8,.lock),(9,.pendO),(10,.lock)] 109 (by kernel_rfl) rfl ?_
          conv=>whnf
          refine dec_intro (by omega) ?_
          conv=>whnf
          refine⟨_,k4.rd hus.symm,?_⟩
          conv=>whnf
          intro b5 hb5 hO5
          conv=>whnf
          refine append_one' (xs:=(gridRow F i k).map cellsOf) (y:=cellsOf (F i k).1) k4.row rfl rfl (cellsOf_one _) ⟨_,_,_,rfl,rfl,Rd.whole (ins_same _ _ _)⟩ ?_ fun v2 O4 hO4 hkeep=>?_
          · simp[gridRow]
            omega
          obtain⟨vb,vn,vc,rfl⟩:=OwnS.sl hO4
          conv=>whnf
          refine dec_intro (by omega) ?_
          conv=>whnf
          obtain⟨cs,q1,q2,q3⟩:=k4.step (l':=gridRow F i (k+1)) hus.symm (by rw[gridRow_succ,NumO,List.map_append];exact hO4) hkeep
          refine⟨cs,_,q1,q2,?_⟩
          conv=>whnf
          have s5:=sub_ins H4 (.cells ⟨cellsOf (F i k).1⟩ 33 (0,0)) hb5
          refine⟨(k+1,ins H4 b5 (.cells ⟨cellsOf (F i k).1⟩ 33 (0,0)),.slice vb vn vc,_),⟨hk,k2.trans (s4.trans s5),?_,q3.up s5⟩,by dsimp only;omega,?_⟩
          · rw[k3,errsE_at hi hk,if_pos he]
          · conv=>whnf
            refine⟨rfl,rfl,?_⟩
            conv=>whnf
            repeat (refine⟨rfl,?_⟩;conv=>whnf)
            refine⟨by show En.v (.int .i64 (IntKind.i64.wrap (k+1)))=_;rw[wrap_id (by omega) (by omega)];rfl,?_⟩
            conv=>whnf
            repeat (refine⟨rfl,?_⟩;conv=>whnf)
            exact trivial
        · have hk:wg=k:=by
            have:¬ (k:Int) < ((wg:Nat):Int):=by simpa using h
            omega
          conv=>whnf
          refine .inr ⟨(k,H3,cur,O3),⟨rfl,k2,?_,?_⟩,?_⟩
          · rw[k3,← hk,Nat.succ_mul]
          · rw[← hk] at k4
            rw[← hk]
            exact k4
          · conv=>whnf
            refine⟨rfl,rfl,?_⟩
            conv=>whnf
            repeat (refine⟨rfl,?_⟩;conv=>whnf)
            exact trivial
      · rintro e ⟨k,H3,cur,O3⟩ ⟨rfl,k2,k3,k4⟩
        dsimp only at k2 k3 k4
        refine .inr fun hd=>?_
        obtain⟨H4,O4,rp,g4⟩:=k4.done hd
        refine⟨H4,O4,rp,?_⟩
        conv=>whnf
        refine⟨(i+1,H4,us++[cur],O4),⟨hi,h2.trans (k2.trans rp.sub),k3,?_⟩,by dsimp only;omega,?_⟩
        · rw[gridM_succ];exact g4
        · conv=>whnf
          refine⟨rfl,rfl,?_⟩
          conv=>whnf
          repeat (refine⟨rfl,?_⟩;conv=>whnf)
          refine⟨by show En.v (.int .i64 (IntKind.i64.wrap (i+1)))=_;rw[wrap_id (by omega) (by omega)];rfl,?_⟩
          conv=>whnf
          repeat (refine⟨rfl,?_⟩;conv=>whnf)
          exact trivial
    · have hi:hg=i:=by
        have:¬ (i:Int) < ((hg:Nat):Int):=by simpa using h
        omega
      conv=>whnf
      refine .inr ⟨(i,H',us,O'),⟨rfl,h2,?_,?_⟩,?_⟩
      · rw[h3,← hi,errsE_end]
      · rw[← hi] at h4
        rw[← hi]
        exact h4
      · conv=>whnf
        refine⟨rfl,rfl,?_⟩
        conv=>whnf
        repeat (refine⟨rfl,?_⟩;conv=>whnf)
        exact trivial
  · rintro e ⟨i,H',us,O'⟩ ⟨rfl,h2,h3,h4⟩
    dsimp only at h2 h3 h4
    refine .inr fun hd=>?_
    obtain⟨H4,O4,rp,g4⟩:=h4.mat hd (by rw[h4.rows.1];simp[gridM])
    refine⟨H4,O4,rp,?_⟩
    conv=>whnf
    rw[resM_ok hA h3]
    exact⟨_,rfl,g4⟩
theorem one_row {H : PH} {b:Nat} {l:List (P4 × Int)} {t:TypeId} (hb:H b=some (.cells ⟨cellsN l⟩ t (0,0))) {n:Nat} (hn:n=l.length):NumH H (.slice (some ⟨b,0,none⟩) n n) l:=by
  subst hn
  exact⟨_,_,rfl,.inr ⟨b,0,_,_,_,rfl,hb,by simp⟩⟩
def ScaleMR (m : Mx) (x:P4 × Int):Mx × Int:=if checkMR m ≠ 0 then ([],checkMR m) else if checkR x.1 x.2 ≠ 0 then ([],checkR x.1 x.2) else KronMR m [[x]]
theorem c38 (m : Mx) (x:P4 × Int) (H:PH) (u:Value) (hu:MatH H u m):Cl Tryz.prog 53 [u,nv x] H emp fun r H' _=>OutH H' r (ScaleMR m x):=by
  obtain⟨base,cap,rfl⟩:=hu.sl
  refine Cl_of (pol:=fun | 20=>.imm | 21=>.imm | _=>.loc) Γok Tryz.func53 (by kernel_rfl) rfl ?_
  conv=>whnf
  intro bx
  conv=>whnf
  unfold ScaleMR
  refine (c30 m _ _ hu).val fun H1 s1=>?_
  conv=>whnf
  refine if_intro (fun he=>?_) (fun he=>?_)
  · conv=>whnf
    rw[if_pos (show checkMR m ≠ 0 by simpa using he)]
    exact OutH.bad
  have he:checkMR m=0:=by simpa using he
  rw[if_neg (by simpa using he)]
  conv=>whnf
  refine (c108 x.1 x.2 _).val fun H2 s2=>?_
  conv=>whnf
  refine if_intro (fun he2=>?_) (fun he2=>?_)
  · conv=>whnf
    rw[if_pos (show checkR x.1 x.2 ≠ 0 by simpa using he2)]
    exact OutH.bad
  have he2:checkR x.1 x.2=0:=by simpa using he2
  rw[if_neg (by simpa using he2)]
  replace hu:=(hu.up s1).up s2
  conv=>whnf
  intro b1 hb1 _
  conv=>whnf
  intro b2 hb2 _
  conv=>whnf
  have s3:=sub_ins H2 (.cells ⟨cellsOf x⟩ 33 (0,0)) hb1
  have s4:=sub_ins _ (.cells ⟨[.slice (some ⟨b1,0,none⟩) 1 1]⟩ 31 (0,0)) hb2
  refine (c37 m [[x]] _ _ _ ((hu.up s3).up s4) (one_mat (ins_same _ _ _) (one_row (t:=33) (l:=[x]) (by rw[show cellsN [x]=cellsOf x by simp[cellsN]];exact s4 _ _ (ins_same _ _ _)) rfl))).mono fun r H3 M3 s5 hr=>?_
  obtain⟨a,rfl,ha⟩:=hr
  conv=>whnf
  exact⟨a,rfl,ha⟩
end Go.Proofs.YtgbhgfdgifkdhaaGreat

namespace Go.Proofs.YtgbhgfdgifkdhaaGreat
open Go.Proofs.YtgbhgfdgifkdhaaGreat.X Go.Proofs.YtgbhgfdgifkdhaaGreat.X.PH
set_option maxRecDepth 100000
def OwnQ (M : PH) (u:Value) (x:Mx):Prop:=(u=.slice none 0 0∧x=[])∨∃ h w,h < 1000000∧w < 1000000∧OwnM M u h w x
def OutO (M : PH) (r:Value) (x:Mx × Int):Prop:=∃ u,r=.tuple #[u,.int .i64 x.2]∧OwnQ M u x.1
theorem OutO.bad {M : PH} {e:Int}:OutO M (.tuple #[.slice none 0 0,.int .i64 e]) ([],e):=⟨_,rfl,.inl ⟨rfl,rfl⟩⟩
theorem OwnQ.up {M M' : PH} {u:Value} {x:Mx} (h:OwnQ M u x) (hs:Sub M M'):OwnQ M' u x:=by
  rcases h with h | ⟨a,b,h1,h2,h3⟩
  · exact .inl h
  · exact .inr ⟨a,b,h1,h2,h3.up hs⟩
theorem OwnQ.share {H M : PH} (hd:Dis H M) {u:Value} {x:Mx} (h:OwnQ M u x):MatH (un H M) u x:=by
  rcases h with⟨rfl,rfl⟩ | ⟨a,b,h1,h2,h3⟩
  · exact nilM _
  · exact h3.share hd
theorem MadeE.out {F : Nat→Nat→(P4 × Int) × Int} {h w:Nat} {r:Value} {M:PH} (hh:h < 1000000) (hw:w < 1000000) (m:MadeE F h w r M) {e:Int} (he:e=0):OutO M r (resM e F h w):=by
  rcases m with⟨h1,rfl⟩ | ⟨h1,u,rfl,h2⟩
  · rw[resM_err he rfl h1]
    exact OutO.bad
  · rw[resM_ok he h1]
    rw[fills_grid] at h2
    exact⟨u,rfl,.inr ⟨h,w,hh,hw,h2⟩⟩
theorem OutO.pub {H M : PH} (hd:Dis H M) {r:Value} {x:Mx × Int} (h:OutO M r x):OutH (un H M) r x:=by
  obtain⟨u,h1,h2⟩:=h
  exact⟨u,h1,h2.share hd⟩
theorem Cl.outH {f : FuncId} {args:List Value} {H:PH} {x:Mx × Int} (h:Cl Tryz.prog f args H emp fun r _ M'=>OutO M' r x):Cl Tryz.prog f args H emp fun r H' _=>OutH H' r x:=
  h.repart fun _ _ _ _ hd ho=>⟨_,_,.all hd,ho.pub hd⟩
def addAt (m n : Mx) (i k:Nat):(P4 × Int) × Int:=AddF (entry m i k) (entry n i k)
def AddMF (m n : Mx):Mx × Int:=resM (addErr m n) (addAt m n) m.length (wideM m)
theorem c109 (m n : Mx) (i k:Nat) (hi:i < m.length) (hk:k < m[i].length) (hi':i < n.length) (hk':k < n[i].length) (H:PH) (u v:Value) (bm bn:Nat) (t t':TypeId) (hu:MatH H u m) (hv:MatH H v n) (hbm:H bm=some (.cells ⟨[u]⟩ t (0,0))) (hbn:H bn=some (.cells ⟨[v]⟩ t' (0,0))) :
    Cl Tryz.prog 131 [place i k,.pointer (some ⟨bm,0,none⟩),.pointer (some ⟨bn,0,none⟩)] H emp fun r _ _=>r=ne (AddF m[i][k] n[i][k]):=by
  obtain⟨base,cap,rfl⟩:=hu.sl
  obtain⟨base',cap',rfl⟩:=hv.sl
  refine Cl_of (pol:=polL) Γok Tryz.func131 (by kernel_rfl) rfl ?_
  conv=>whnf
  repeat (intro _;conv=>whnf)
  refine W_draw (pol:=polL) Γok mixes [(0,.pendO),(1,.pendO),(3,.pend),(4,.pend),(2,.lock),(5,.lock),(6,.lock),(7,.pendO),(8,.pendO),(9,.lock),(10,.pendO)] 15 (by kernel_rfl) rfl ?_
  conv=>whnf
  refine⟨_,Rd.whole hbm,?_⟩
  conv=>whnf
  refine⟨_,Rd.whole hbn,?_⟩
  conv=>whnf
  refine (c84 m i k hi hk _ _ hu).val fun H1 s1=>?_
  conv=>whnf
  refine (c84 n i k hi' hk' _ _ (hv.up s1)).val fun H2 s2=>?_
  conv=>whnf
  refine (c110 m[i][k] n[i][k] _).val fun H3 s3=>?_
  conv=>whnf
  rfl
theorem c39 (m n : Mx) (hlm:m.length < 1000000) (hln:n.length < 1000000) (H:PH) (u v:Value) (hu:MatH H u m) (hv:MatH H v n):Cl Tryz.prog 54 [u,v] H emp fun r _ M'=>OutO M' r (AddMF m n):=by
  obtain⟨base,cap,rfl⟩:=hu.sl
  obtain⟨base',cap',rfl⟩:=hv.sl
  refine Cl_of (pol:=fun | 2=>.imm | 3=>.imm | 9=>.imm | _=>.loc) Γok Tryz.func54 (by kernel_rfl) rfl ?_
  conv=>whnf
  intro bm hbm _
  conv=>whnf
  intro bn hbn _
  conv=>whnf
  intro b hb _
  conv=>whnf
  have s1:=sub_ins H (.cells ⟨[.slice base m.length cap]⟩ 23 (0,0)) hbm
  have s2:=sub_ins _ (.cells ⟨[.slice base' n.length cap']⟩ 23 (0,0)) hbn
  have s3:=sub_ins _ (.cells ⟨[.slice base m.length cap,.slice base' n.length cap']⟩ 23 (0,0)) hb
  refine (c101 [m,n] (by simp) (by simp;omega) _ _ (pair_mats (ins_same _ _ _) (((hu.up s1).up s2).up s3) (((hv.up s1).up s2).up s3))).val fun H2 s4=>?_
  conv=>whnf
  unfold AddMF
  refine if_intro (fun he=>?_) (fun he=>?_)
  · conv=>whnf
    have he:errsM [m,n] ≠ 0:=by simpa using he
    unfold addErr bothErr
    rw[if_pos he,resM_bad he]
    exact OutO.bad
  have he:errsM [m,n]=0:=by simpa using he
  obtain⟨rm,rn⟩:=rights_of he
  have hu2:=(((hu.up s1).up s2).up s3).up s4
  have hv2:=(((hv.up s1).up s2).up s3).up s4
  conv=>whnf
  refine (c102 m n rm.pos rn.pos _ _ _ hu2 hv2).val fun H3 s5=>?_
  conv=>whnf
  refine if_intro (fun ha=>?_) (fun ha=>?_)
  · conv=>whnf
    have ha:alikeF m n=false:=by simpa using ha
    unfold addErr bothErr
    rw[if_neg (by simpa using he),ha,resM_bad (by decide)]
    exact OutO.bad
  have ha:alikeF m n=true:=by simpa using ha
  have hA:addErr m n=0:=by
    unfold addErr bothErr
    rw[if_neg (by simpa using he),ha]
    rfl
  obtain⟨e1,e2⟩:=alike_iff ha
  have hml:=rm.le
  have hwl:=rm.wle
  have hmp:=rm.pos
  obtain⟨bu,ou,ru,cu,rfl,hru,_⟩:=(hu2.up s5).at rm.pos
  rw[← wideM_get rm.pos] at hru
  conv=>whnf
  refine W_draw (pol:=polL) Γok mixes [(0,.pendO),(1,.pendO),(2,.pendO),(3,.pendO),(4,.pendO),(5,.pendO),(6,.pendO),(7,.lock),(8,.pendO),(9,.pendO),(10,.pendO),(11,.pendO)] 28 (by kernel_rfl) rfl ?_
  conv=>whnf
  refine dec_intro (by omega) ?_
  conv=>whnf
  refine⟨_,hru _ _ (Sub.refl _),?_⟩
  conv=>whnf
  refine (c81 (addAt m n) m.length (wideM m) (by omega) (by omega) _ _ _ _ fun i k hi hk=>⟨131,[],[_,_],rfl,fun H' hs'=>?_⟩).mono fun r H4 M4 s6 hr=>?_
  · have r1:=rm.row _ (List.getElem_mem hi)
    have r2:=rn.row _ (List.getElem_mem (show i < n.length by omega))
    unfold addAt
    rw[entry_get hi (by omega),entry_get (show i < n.length by omega) (by omega)]
    exact c109 m n i k hi (by omega) (by omega) (by omega) H' _ _ _ _ _ _ ((hu2.up s5).up hs') ((hv2.up s5).up hs') (hs' _ _ (s5 _ _ (s4 _ _ (s3 _ _ (s2 _ _ (ins_same _ _ _)))))) (hs' _ _ (s5 _ _ (s4 _ _ (s3 _ _ (ins_same _ _ _)))))
  obtain⟨x,rfl,hx⟩:=MadeE.out (by omega) (by omega) hr hA
  conv=>whnf
  exact⟨x,rfl,hx⟩
def scaleAt (m : Mx) (x:P4 × Int) (i k:Nat):(P4 × Int) × Int:=MulF (entry m i k) x
def ScaleMF (m : Mx) (x:P4 × Int):Mx × Int:=resM (if checkMF m ≠ 0 then checkMF m else checkF x.1 x.2) (scaleAt m x) m.length (wideM m)
theorem c114 (m : Mx) (x:P4 × Int) (i k:Nat) (hi:i < m.length) (hk:k < m[i].length) (H:PH) (u:Value) (bm bx:Nat) (t t':TypeId) (hu:MatH H u m) (hbm:H bm=some (.cells ⟨[u]⟩ t (0,0))) (hbx:H bx=some (.cells ⟨cellsOf x⟩ t' (0,0))) :
    Cl Tryz.prog 136 [place i k,.pointer (some ⟨bm,0,none⟩),.pointer (some ⟨bx,0,none⟩)] H emp fun r _ _=>r=ne (MulF m[i][k] x):=by
  obtain⟨base,cap,rfl⟩:=hu.sl
  refine Cl_of (pol:=polL) Γok Tryz.func136 (by kernel_rfl) rfl ?_
  conv=>whnf
  repeat (intro _;conv=>whnf)
  refine W_draw (pol:=polL) Γok mixes [(0,.pendO),(1,.pendO),(3,.pend),(2,.lock),(4,.lock),(5,.pendO),(6,.pendO),(7,.lock),(8,.pendO)] 13 (by kernel_rfl) rfl ?_
  conv=>whnf
  refine⟨_,Rd.whole hbm,?_⟩
  conv=>whnf
  refine⟨_,Rd.whole hbx,?_⟩
  conv=>whnf
  refine (c84 m i k hi hk _ _ hu).val fun H1 s1=>?_
  conv=>whnf
  refine (c104 m[i][k] x _).val fun H3 s3=>?_
  conv=>whnf
  rfl
theorem c42 (m : Mx) (x:P4 × Int) (hlm:m.length < 1000000) (H:PH) (u:Value) (hu:MatH H u m):Cl Tryz.prog 56 [u,nv x] H emp fun r _ M'=>OutO M' r (ScaleMF m x):=by
  obtain⟨base,cap,rfl⟩:=hu.sl
  refine Cl_of (pol:=fun | 2=>.imm | 3=>.imm | _=>.loc) Γok Tryz.func56 (by kernel_rfl) rfl ?_
  conv=>whnf
  intro bm hbm _
  conv=>whnf
  intro bx hbx _
  conv=>whnf
  have s1:=sub_ins H (.cells ⟨[.slice base m.length cap]⟩ 23 (0,0)) hbm
  have s2:=sub_ins _ (.cells ⟨cellsOf x⟩ 33 (0,0)) hbx
  refine (c29 m _ _ hlm ((hu.up s1).up s2)).val fun H2 s4=>?_
  conv=>whnf
  unfold ScaleMF
  refine if_intro (fun he=>?_) (fun he=>?_)
  · conv=>whnf
    have he:checkMF m ≠ 0:=by simpa using he
    rw[if_pos he,resM_bad he]
    exact OutO.bad
  have he:checkMF m=0:=by simpa using he
  have rm:=right_of he
  have hu2:=((hu.up s1).up s2).up s4
  conv=>whnf
  refine (c93 x.1 x.2 _).val fun H3 s5=>?_
  conv=>whnf
  refine if_intro (fun ha=>?_) (fun ha=>?_)
  · conv=>whnf
    have ha:checkF x.1 x.2 ≠ 0:=by simpa using ha
    rw[if_neg (by simpa using he),resM_bad ha]
    exact OutO.bad
  have ha:checkF x.1 x.2=0:=by simpa using ha
  rw[if_neg (by simpa using he)]
  have hml:=rm.le
  have hwl:=rm.wle
  have hmp:=rm.pos
  obtain⟨bu,ou,ru,cu,rfl,hru,_⟩:=(hu2.up s5).at rm.pos
  rw[← wideM_get rm.pos] at hru
  conv=>whnf
  refine W_draw (pol:=polL) Γok mixes [(0,.pendO),(1,.pendO),(2,.pendO),(3,.pendO),(4,.pendO),(5,.pendO),(6,.pendO),(7,.lock),(8,.pendO),(9,.pendO),(10,.pendO),(11,.pendO)] 28 (by kernel_rfl) rfl ?_
  conv=>whnf
  refine dec_intro (by omega) ?_
  conv=>whnf
  refine⟨_,hru _ _ (Sub.refl _),?_⟩
  conv=>whnf
  refine (c81 (scaleAt m x) m.length (wideM m) (by omega) (by omega) _ _ _ _ fun i k hi hk=>⟨136,[],[_,_],rfl,fun H' hs'=>?_⟩).mono fun r H4 M4 s6 hr=>?_
  · have r1:=rm.row _ (List.getElem_mem hi)
    unfold scaleAt
    rw[entry_get hi (by omega)]
    exact c114 m x i k hi (by omega) H' _ _ _ _ _ ((hu2.up s5).up hs') (hs' _ _ (s5 _ _ (s4 _ _ (s2 _ _ (ins_same _ _ _))))) (hs' _ _ (s5 _ _ (s4 _ _ (ins_same _ _ _))))
  obtain⟨y,rfl,hx⟩:=MadeE.out (by omega) (by omega) hr ha
  conv=>whnf
  exact⟨y,rfl,hx⟩
def MulMF (m n : Mx):Mx × Int:=resM (mulErr m n) (mulAt m n) m.length (wideM n)
theorem c40q (m n : Mx) (hlm:m.length < 1000000) (hln:n.length < 1000000) (H:PH) (u v:Value) (hu:MatH H u m) (hv:MatH H v n):Cl Tryz.prog 28 [u,v] H emp fun r _ M'=>OutO M' r (MulMF m n):=
  (c40 m n hlm hln H u v hu hv).mono fun r H' M' _ hr=>by
    unfold MulMF mulErr bothErr
    rcases hr with⟨h1,rfl⟩ | ⟨h1,h2,rfl⟩ | ⟨h1,h2,h3⟩
    · rw[if_pos h1,resM_bad h1];exact OutO.bad
    · rw[if_neg (by simpa using h1),if_neg h2,resM_bad (by decide)];exact OutO.bad
    · have hw:=(rights_of h1).2.wle
      exact h3.out (by omega) (by omega) (by rw[if_neg (by simpa using h1),if_pos h2])
def KronMF (m n : Mx):Mx × Int:=resM (kronErr m n) (kronAt m n) (m.length*n.length) (wideM m*wideM n)
theorem sized_nat {n : Nat} (h:0 < n):sizedF (n:Int)=decide (n≤64):=by
  unfold sizedF
  by_cases h1:n≤64
  · simp[h1];omega
  · simp[h1];omega
theorem c41q (m n : Mx) (hlm:m.length < 1000000) (hln:n.length < 1000000) (H:PH) (u v:Value) (hu:MatH H u m) (hv:MatH H v n):Cl Tryz.prog 55 [u,v] H emp fun r _ M'=>OutO M' r (KronMF m n):=
  (c41 m n hlm hln H u v hu hv).mono fun r H' M' _ hr=>by
    unfold KronMF kronErr bothErr
    have key:errsM [m,n]=0→(sizedF ((m.length*n.length:Nat):Int) && sizedF ((wideM m*wideM n:Nat):Int))=decide (m.length*n.length≤64∧wideM m*wideM n≤64):=by
      intro h1
      obtain⟨rm,rn⟩:=rights_of h1
      rw[sized_nat (Nat.mul_pos rm.pos rn.pos),sized_nat (Nat.mul_pos rm.wpos rn.wpos)]
      simp
    rcases hr with⟨h1,rfl⟩ | ⟨h1,h2,rfl⟩ | ⟨h1,h2,h3⟩
    · rw[if_pos h1,resM_bad h1];exact OutO.bad
    · rw[key h1] at h2
      rw[if_neg (by simpa using h1),if_neg (by simpa using h2),resM_bad (by decide)];exact OutO.bad
    · rw[key h1] at h2
      have h2:=of_decide_eq_true h2
      exact h3.out (by omega) (by omega) (by rw[if_neg (by simpa using h1),if_pos h2])
theorem AddM_eq (m n : Mx):AddMF m n=AddMR m n:=resM_congr rfl fun _ i k _ _=>Add_eq _ _
theorem colL_at {n : Mx} {k t:Nat} (ht:t < n.length):atL (colL n k) t=entry n t k:=by
  unfold atL colL entry
  simp[List.getD_eq_getElem?_getD,ht,atL]
theorem MulM_eq (m n : Mx):MulMF m n=MulMR m n:=by
  refine resM_congr rfl fun h i k hi hk=>?_
  unfold mulErr bothErr at h
  split at h
  · rename_i h1;exact absurd h h1
  rename_i h1
  have h1:errsM [m,n]=0:=by simpa using h1
  split at h
  · rename_i h2
    have rm:=(rights_of h1).1
    have r1:=rm.row _ (List.getElem_mem hi)
    have e:(m.getD i []).length=n.length:=by
      rw[show m.getD i []=m[i] by simp[List.getD_eq_getElem?_getD,hi]]
      omega
    unfold mulAt mulAtR
    rw[e]
    exact dot_eq _ fun t ht=>⟨rfl,(colL_at ht).symm⟩
  · cases h
theorem KronM_eq (m n : Mx):KronMF m n=KronMR m n:=resM_congr rfl fun _ i k _ _=>Mul_eq _ _
theorem ScaleM_eq (m : Mx) (x:P4 × Int):ScaleMF m x=ScaleMR m x:=by
  unfold ScaleMF ScaleMR
  rw[← checkMF_checkMR,← checkF_checkR]
  split
  · rename_i h;rw[resM_bad h]
  rename_i h1
  have h1:checkMF m=0:=by simpa using h1
  split
  · rename_i h;rw[resM_bad h]
  rename_i h2
  have h2:checkF x.1 x.2=0:=by simpa using h2
  have rm:=right_of h1
  have hx:checkMF [[x]]=0:=by
    rw[checkMF_checkMR]
    unfold checkMR
    simp[badRow,errsR,firstErr,← checkF_checkR,h2]
  have hk:kronErr m [[x]]=0:=by
    unfold kronErr bothErr errsM
    have:=rm.le
    have:=rm.wle
    simp[firstErr,h1,hx,wideM] at this ⊢
    omega
  have e1:m.length*[[x]].length=m.length:=by simp
  have e2:wideM m*wideM [[x]]=wideM m:=by simp[wideM]
  unfold KronMR
  rw[e1,e2]
  refine resM_congr (h2.trans hk.symm) fun _ i k _ _=>?_
  unfold scaleAt kronAtR
  rw[Mul_eq]
  simp[wideM,Nat.mod_one]
  rfl
end Go.Proofs.YtgbhgfdgifkdhaaGreat

namespace Go.Proofs.YtgbhgfdgifkdhaaGreat
open Go.Proofs.YtgbhgfdgifkdhaaGreat.X Go.Proofs.YtgbhgfdgifkdhaaGreat.X.PH
set_option maxRecDepth 100000
def OwnL (B : PH):PH→List (Value × Mx)→Prop
  | O,[]=>Sub B O
  | O,(u,x)::l=>∃ M R,Sub M O∧Sub R O∧Dis M R∧OwnQ M u x∧OwnL B R l
theorem OwnL.up {B : PH}:∀ {l:List (Value × Mx)} {O O':PH},OwnL B O l→Sub O O'→OwnL B O' l
  | [],_,_,h,hs=>Sub.trans h hs
  | (_,_)::_,_,_,⟨M,R,h1,h2,h3,h4,h5⟩,hs=>⟨M,R,h1.trans hs,h2.trans hs,h3,h4,h5⟩
theorem OwnL.rem {B : PH}:∀ {l:List (Value × Mx)} {O:PH},OwnL B O l→Sub B O
  | [],_,h=>h
  | (_,_)::_,_,⟨M,R,h1,h2,h3,h4,h5⟩=>h5.rem.trans h2
theorem un_l {A B : PH}:Sub A (un A B):=fun n o h=>by simp[un,h]
theorem un_r {A B : PH} (hd:Dis A B):Sub B (un A B):=fun n o h=>un_right hd h
theorem Dis.sub {A B A' : PH} (h:Dis A B) (hs:Sub A' A):Dis A' B:=fun n=>by
  cases e:A' n with
  | none=>exact .inl rfl
  | some o=>exact .inr ((h n).resolve_left (by rw[hs _ _ e];simp))
theorem OwnL.snoc : ∀ {l:List (Value × Mx)} {O M:PH} {u:Value} {x:Mx},OwnL emp O l→Dis M O→OwnQ M u x→OwnL emp (un M O) (l++[(u,x)])
  | [],O,M,u,x,_,hd,hq=>⟨M,emp,un_l,(fun _ _ h=>by cases h),.emp _,hq,Sub.refl _⟩
  | (u0,x0)::l,O,M,u,x,⟨M0,R,h1,h2,h3,h4,h5⟩,hd,hq=>by
    refine⟨M0,un M R,h1.trans (un_r hd),?_,?_,h4,h5.snoc (Dis.symm (Dis.sub hd.symm h2)) hq⟩
    · intro n o hn
      unfold un at hn ⊢
      cases e:M n with
      | some o'=>rw[e] at hn;exact hn
      | none=>rw[e] at hn;exact h2 _ _ hn
    · intro n
      cases e:M0 n with
      | none=>exact .inl rfl
      | some o=>
        refine .inr ?_
        unfold un
        rw[(hd n).resolve_right (by rw[h1 _ _ e];simp)]
        exact (h3 n).resolve_left (by rw[e];simp)
theorem OwnL.ins {b : Nat} {o:Obj}:∀ {l:List (Value × Mx)} {O:PH},OwnL emp O l→O b=none→OwnL (ins emp b o) (ins O b o) l
  | [],O,_,_=>fun n x hn=>by
    by_cases e:n=b
    · subst e;rw[ins_same] at hn ⊢;exact hn
    · rw[ins_ne _ _ e] at hn;cases hn
  | (u0,x0)::l,O,⟨M0,R,h1,h2,h3,h4,h5⟩,hb=>by
    have hR:R b=none:=by
      cases e:R b with
      | none=>rfl
      | some o=>rw[h2 _ _ e] at hb;cases hb
    refine⟨M0,PH.ins R b o,h1.trans (sub_ins _ _ hb),?_,?_,h4,h5.ins hR⟩
    · intro n x hn
      by_cases e:n=b
      · subst e;rw[ins_same] at hn ⊢;exact hn
      · rw[ins_ne _ _ e] at hn ⊢;exact h2 _ _ hn
    · intro n
      by_cases e:n=b
      · subst e
        refine .inl ?_
        cases e:M0 n with
        | none=>rfl
        | some o=>rw[h1 _ _ e] at hb;cases hb
      · rw[ins_ne _ _ e];exact h3 n
theorem OwnL.mem {B : PH}:∀ {l:List (Value × Mx)} {O:PH} {u:Value} {x:Mx},OwnL B O l→(u,x)∈l→OwnQ O u x
  | (u0,x0)::l,O,u,x,⟨M,R,h1,h2,h3,h4,h5⟩,hm=>by
    rcases List.mem_cons.1 hm with h | h
    · cases h;exact h4.up h1
    · exact (h5.mem h).up h2
theorem OwnL.call {f : FuncId} {args:List Value} {H O:PH} {x:Mx × Int} {l:List (Value × Mx)} (hl:OwnL emp O l) (h:Cl Tryz.prog f args H emp fun r _ M'=>OutO M' r x) :
    Cl Tryz.prog f args H O fun r _ O'=>∃ u,r=.tuple #[u,.int .i64 x.2]∧OwnL emp O' (l++[(u,x.1)]):=
  h.pure.mono fun r H' O' _ ⟨M',hp,u,hr,hq⟩=>⟨u,hr,by
    rw[show O'=un M' O from funext hp.all]
    exact hl.snoc hp.dis hq⟩
theorem OwnQ.len {M : PH} {u:Value} {x:Mx} (h:OwnQ M u x):x.length < 1000000∧∀ r∈x,r.length < 1000000:=by
  rcases h with⟨_,rfl⟩ | ⟨a,b,h1,h2,h3,h4,_⟩
  · simp
  · refine⟨by omega,fun r hr=>?_⟩
    obtain⟨i,hi⟩:=List.mem_iff_getElem?.1 hr
    have:=h4 i r hi
    omega
theorem c23L {B H O : PH} {l:List (Value × Mx)} {u v:Value} {x:Mx} (hl:OwnL B O l) (hm:(u,x)∈l) (hv:MatH H v x):Cl Tryz.prog 45 [u,v] H O fun r _ O'=>Sub O O'∧r=.bool true:=by
  have hq:=hl.mem hm
  have hlen:=hq.len
  have hent:=(c23 [] [] emp _ _ (nilM _) (nilM _) (by simp) (by simp)).ent
  have h:=Cl.share' (H:=H) (R:=O) (Q:=fun r=>r=.bool (eqM x x)) (show Ent Tryz.prog 45 from hent) (args:=[u,v]) fun hd=>c23 x x _ _ _ (hq.share hd) (hv.up un_l) (by omega) (fun r hr=>by have:=hlen.2 r hr;omega)
  rw[eqM_refl] at h
  exact h
theorem c24q {H M : PH} {u:Value} {x:Mx} (h:OwnQ M u x):Cl Tryz.prog 46 [u] H M fun _ _ _=>True:=by
  rcases h with⟨rfl,_⟩ | ⟨a,b,h1,h2,h3⟩
  · exact c24nil H M
  · exact c24 a b h1 h2 x H M u h3
theorem c24L {B H O : PH} {l:List (Value × Mx)} {u:Value} {x:Mx} (hl:OwnL B O ((u,x)::l)):Cl Tryz.prog 46 [u] H O fun _ _ O'=>OwnL B O' l:=by
  obtain⟨M,R,h1,h2,h3,h4,h5⟩:=hl
  have hp:Parts O M (fun n=>match M n with | some _=>none | none=>O n):=by
    refine⟨fun n=>?_,fun n=>?_⟩
    · unfold un
      cases e:M n with
      | some o=>exact h1 _ _ e
      | none=>simp[e]
    · cases e:M n with
      | some o=>exact .inr (by simp[e])
      | none=>exact .inl rfl
  refine ((c24q (H:=H) h4).frame hp).mono fun _ H' O' _ ⟨M',hp',_⟩=>h5.up fun n o hn=>hp'.right n o ?_
  simp only[(h3 n).resolve_right (by rw[hn];simp)]
  exact h2 _ _ hn
theorem OwnQ.sl {M : PH} {u:Value} {x:Mx} (h:OwnQ M u x):∃ base n cap,u=.slice base n cap:=by
  rcases h with⟨rfl,_⟩ | ⟨a,b,_,_,_,_,bs,b0,_,_,rfl,_⟩
  · exact⟨_,_,_,rfl⟩
  · exact⟨_,_,_,rfl⟩
set_option maxHeartbeats 4000000 in
theorem c6 (m n : Mx) (x:P4 × Int) (hlm:m.length < 9223372036854775808) (hln:n.length < 9223372036854775808) (H:PH) (u v:Value) (hu:MatH H u m) (hv:MatH H v n) :
    Cl Tryz.prog 11 [u,v,nv x] H emp fun r _ _=>r=.bool true:=by
  obtain⟨base,cap,rfl⟩:=hu.sl
  obtain⟨base',cap',rfl⟩:=hv.sl
  refine Cl_of (pol:=fun | 29=>.imm | 130=>.own | _=>.loc) Γok Tryz.func11 (by kernel_rfl) rfl ?_
  conv=>whnf
  intro bx
  conv=>whnf
  intro b hb _
  conv=>whnf
  have s1:=sub_ins H (.cells ⟨[.slice base m.length cap,.slice base' n.length cap']⟩ 23 (0,0)) hb
  refine (c13 [m,n] (by simp) (by simp;omega) _ _ (pair_mats (ins_same _ _ _) (hu.up s1) (hv.up s1))).val fun H1 s2=>?_
  conv=>whnf
  refine if_intro (fun hg=>?_) (fun hg=>?_)
  · conv=>whnf
    refine (c14 _).val fun H2 s3=>?_
    conv=>whnf
  have hle:=big_le hg
  obtain⟨hm8,hmr⟩:=hle m (by simp)
  obtain⟨hn8,hnr⟩:=hle n (by simp)
  have hu1:=(hu.up s1).up s2
  have hv1:=(hv.up s1).up s2
  clear hu hv
  conv=>whnf
  refine (c15' m _ _ hu1 (by omega) (fun r hr=>by have:=hmr r hr;omega)).use fun p H2 s3 hp=>?_
  obtain⟨_,hp⟩:=hp
  conv=>whnf
  refine (c15' n _ _ (hv1.up s3) (by omega) (fun r hr=>by have:=hnr r hr;omega)).use fun q H3 s4 hq=>?_
  obtain⟨_,hq⟩:=hq
  replace hp:=hp.up s4
  replace hu1:=(hu1.up s3).up s4
  replace hv1:=(hv1.up s3).up s4
  conv=>whnf
  refine (c35 m n _ _ _ hu1 hv1).use fun r H4 s5 hr=>?_
  obtain⟨_,w1,rfl,hw1⟩:=hr
  conv=>whnf
  refine (c36 m n _ _ _ (hu1.up s5) (hv1.up s5)).use fun r H5 s6 hr=>?_
  obtain⟨_,w2,rfl,hw2⟩:=hr
  conv=>whnf
  refine (c37 m n _ _ _ ((hu1.up s5).up s6) ((hv1.up s5).up s6)).use fun r H6 s7 hr=>?_
  obtain⟨_,w3,rfl,hw3⟩:=hr
  conv=>whnf
  refine (c38 m x _ _ (((hu1.up s5).up s6).up s7)).use fun r H7 s8 hr=>?_
  obtain⟨_,w4,rfl,hw4⟩:=hr
  have ss:=s5.trans (s6.trans (s7.trans s8))
  replace hw1:=hw1.up (s6.trans (s7.trans s8))
  replace hw2:=hw2.up (s7.trans s8)
  replace hw3:=hw3.up s8
  replace hp:=hp.up ss
  replace hq:=hq.up ss
  replace hu1:=hu1.up ss
  replace hv1:=hv1.up ss
  conv=>whnf
  have k1:OwnL emp emp []:=Sub.refl _
  have h39:=k1.call (c39 m n (by omega) (by omega) _ _ _ hp hq)
  rw[AddM_eq] at h39
  refine h39.mono fun r H8 O8 t1 hr=>?_
  obtain⟨a1,rfl,k2⟩:=hr
  conv=>whnf
  have h40:=k2.call (c40q m n (by omega) (by omega) _ _ _ (hp.up t1) (hq.up t1))
  rw[MulM_eq] at h40
  refine h40.mono fun r H9 O9 t2 hr=>?_
  obtain⟨a2,rfl,k3⟩:=hr
  conv=>whnf
  have h41:=k3.call (c41q m n (by omega) (by omega) _ _ _ ((hp.up t1).up t2) ((hq.up t1).up t2))
  rw[KronM_eq] at h41
  refine h41.mono fun r H10 O10 t3 hr=>?_
  obtain⟨a3,rfl,k4⟩:=hr
  conv=>whnf
  have h42:=k4.call (c42 m x (by omega) _ _ (((hp.up t1).up t2).up t3))
  rw[ScaleM_eq] at h42
  refine h42.mono fun r H11 O11 t4 hr=>?_
  obtain⟨a4,rfl,k5⟩:=hr
  have tt:=t1.trans (t2.trans (t3.trans t4))
  clear h39 h40 h41 h42 k1 k2 k3 k4
  replace hw1:=hw1.up tt
  replace hw2:=hw2.up tt
  replace hw3:=hw3.up tt
  replace hw4:=hw4.up tt
  replace hp:=hp.up tt
  replace hq:=hq.up tt
  replace hu1:=hu1.up tt
  replace hv1:=hv1.up tt
  generalize AddMR m n=A1 at *
  generalize MulMR m n=A2 at *
  generalize KronMR m n=A3 at *
  generalize ScaleMR m x=A4 at *
  replace k5:OwnL emp O11 [(a1,A1.1),(a2,A2.1),(a3,A3.1),(a4,A4.1)]:=k5
  conv=>whnf
  rw[bne_self_eq_false]
  conv=>whnf
  rw[bne_self_eq_false]
  conv=>whnf
  rw[bne_self_eq_false]
  conv=>whnf
  rw[bne_self_eq_false]
  conv=>whnf
  refine (c23L k5 (by simp) hw1).mono fun r H12 O12 t5 hr=>?_
  obtain⟨o1,rfl⟩:=hr
  replace k5:=k5.up o1
  conv=>whnf
  refine (c23L k5 (by simp) (hw2.up t5)).mono fun r H13 O13 t6 hr=>?_
  obtain⟨o2,rfl⟩:=hr
  replace k5:=k5.up o2
  conv=>whnf
  refine (c23L k5 (by simp) ((hw3.up t5).up t6)).mono fun r H14 O14 t7 hr=>?_
  obtain⟨o3,rfl⟩:=hr
  replace k5:=k5.up o3
  conv=>whnf
  refine (c23L k5 (by simp) (((hw4.up t5).up t6).up t7)).mono fun r H15 O15 t8 hr=>?_
  obtain⟨o4,rfl⟩:=hr
  replace k5:=k5.up o4
  obtain⟨y1,y2,y3,rfl⟩:=(k5.mem (u:=a1) (x:=A1.1) (by simp)).sl
  obtain⟨z1,z2,z3,rfl⟩:=(k5.mem (u:=a2) (x:=A2.1) (by simp)).sl
  obtain⟨v1,v2,v3,rfl⟩:=(k5.mem (u:=a3) (x:=A3.1) (by simp)).sl
  obtain⟨u1,u2,u3,rfl⟩:=(k5.mem (u:=a4) (x:=A4.1) (by simp)).sl
  conv=>whnf
  intro bs _ hbs
  replace k5:=k5.ins (o:=.cells ⟨[.slice y1 y2 y3,.slice z1 z2 z3,.slice v1 v2 v3,.slice u1 u2 u3]⟩ 23 (0,0)) hbs
  conv=>whnf
  refine W_loop (pol:=polL) Γok (Nat × PH × PH) (fun i=>i.1≤4∧Sub H15 i.2.1∧OwnL (ins emp bs (.cells ⟨[.slice y1 y2 y3,.slice z1 z2 z3,.slice v1 v2 v3,.slice u1 u2 u3]⟩ 23 (0,0))) i.2.2 (List.drop i.1 [(.slice y1 y2 y3,A1.1),(.slice z1 z2 z3,A2.1),(.slice v1 v2 v3,A3.1),(.slice u1 u2 u3,A4.1)])) (fun i=>4 - i.1) (fun i=>[(132,.v (.int .i64 i.1))]) (fun _=>[]) (fun i=>i.2.1) (fun i=>i.2.2) ⟨(0,H15,_),⟨by simp,Sub.refl _,k5⟩,rfl,rfl,?_⟩ ?_
  · conv=>whnf
    repeat (refine⟨rfl,?_⟩;conv=>whnf)
    exact trivial
  · rintro ⟨i,H16,O16⟩ ⟨h1,t9,k6⟩
    dsimp only at h1 t9 k6
    rcases (show i=0∨i=1∨i=2∨i=3∨i=4 by omega) with rfl | rfl | rfl | rfl | rfl
    · conv=>whnf
      refine⟨[.slice y1 y2 y3],⟨rfl,rfl,_,_,_,.inr (k6.rem _ _ (ins_same _ _ _)),rfl⟩,?_⟩
      conv=>whnf
      refine (c24L k6).mono fun r H17 O17 t10 k7=>?_
      conv=>whnf
      refine⟨(1,H17,O17),⟨by dsimp only;omega,t9.trans t10,k7⟩,by dsimp only;omega,?_⟩
      conv=>whnf
      refine⟨rfl,rfl,?_⟩
      conv=>whnf
      repeat (refine⟨rfl,?_⟩;conv=>whnf)
      exact trivial
    · conv=>whnf
      refine⟨[.slice z1 z2 z3],⟨rfl,rfl,_,_,_,.inr (k6.rem _ _ (ins_same _ _ _)),rfl⟩,?_⟩
      conv=>whnf
      refine (c24L k6).mono fun r H17 O17 t10 k7=>?_
      conv=>whnf
      refine⟨(2,H17,O17),⟨by dsimp only;omega,t9.trans t10,k7⟩,by dsimp only;omega,?_⟩
      conv=>whnf
      refine⟨rfl,rfl,?_⟩
      conv=>whnf
      repeat (refine⟨rfl,?_⟩;conv=>whnf)
      exact trivial
    · conv=>whnf
      refine⟨[.slice v1 v2 v3],⟨rfl,rfl,_,_,_,.inr (k6.rem _ _ (ins_same _ _ _)),rfl⟩,?_⟩
      conv=>whnf
      refine (c24L k6).mono fun r H17 O17 t10 k7=>?_
      conv=>whnf
      refine⟨(3,H17,O17),⟨by dsimp only;omega,t9.trans t10,k7⟩,by dsimp only;omega,?_⟩
      conv=>whnf
      refine⟨rfl,rfl,?_⟩
      conv=>whnf
      repeat (refine⟨rfl,?_⟩;conv=>whnf)
      exact trivial
    · conv=>whnf
      refine⟨[.slice u1 u2 u3],⟨rfl,rfl,_,_,_,.inr (k6.rem _ _ (ins_same _ _ _)),rfl⟩,?_⟩
      conv=>whnf
      refine (c24L k6).mono fun r H17 O17 t10 k7=>?_
      conv=>whnf
      refine⟨(4,H17,O17),⟨by dsimp only;omega,t9.trans t10,k7⟩,by dsimp only;omega,?_⟩
      conv=>whnf
      refine⟨rfl,rfl,?_⟩
      conv=>whnf
      repeat (refine⟨rfl,?_⟩;conv=>whnf)
      exact trivial
    conv=>whnf
    have t:=t5.trans (t6.trans (t7.trans (t8.trans t9)))
    have hmr':∀ r∈m,r.length < 9223372036854775808:=fun r hr=>by have:=hmr r hr;omega
    have hnr':∀ r∈n,r.length < 9223372036854775808:=fun r hr=>by have:=hnr r hr;omega
    refine (c23 m m _ _ _ (hp.up t) (hu1.up t) (by omega) hmr').val fun H20 t13=>?_
    rw[eqM_refl]
    conv=>whnf
    refine (c23 n n _ _ _ ((hq.up t).up t13) ((hv1.up t).up t13) (by omega) hnr').val fun H21 t14=>?_
    rw[eqM_refl]
    conv=>whnf
    refine (c14 _).val fun H22 t15=>?_
    conv=>whnf
end Go.Proofs.YtgbhgfdgifkdhaaGreat

namespace Go.Proofs.YtgbhgfdgifkdhaaGreat
open Go.Proofs.YtgbhgfdgifkdhaaGreat.X Go.Proofs.YtgbhgfdgifkdhaaGreat.X.PH
set_option maxRecDepth 100000
def daggerAt (m : Mx) (i k:Nat):(P4 × Int) × Int:=ConjF (entry m k i)
def DaggerMF (m : Mx):Mx × Int:=resM (checkMF m) (daggerAt m) (wideM m) m.length
theorem c128 (m : Mx) (i k:Nat) (hk:k < m.length) (hi:i < m[k].length) (H:PH) (u:Value) (bm:Nat) (t:TypeId) (hu:MatH H u m) (hbm:H bm=some (.cells ⟨[u]⟩ t (0,0))) :
    Cl Tryz.prog 206 [place i k,.pointer (some ⟨bm,0,none⟩)] H emp fun r _ _=>r=ne (ConjF m[k][i]):=by
  obtain⟨base,cap,rfl⟩:=hu.sl
  obtain⟨b,off,bb,cc,rfl,hrd,hn⟩:=hu.at hk
  obtain⟨b1,off1,rfl,hx⟩:=hn.at hi
  refine Cl_of (pol:=polL) Γok Tryz.func206 (by kernel_rfl) rfl ?_
  conv=>whnf
  repeat (intro _;conv=>whnf)
  refine W_draw (pol:=polL) Γok mixes [(0,.pendO),(1,.pendO),(2,.pendO),(3,.pendO),(4,.pendO),(5,.pendO),(6,.pendO),(7,.pendO),(8,.pendO),(9,.lock),(10,.pendO),(11,.pendO),(12,.lock),(13,.pendO)] 17 (by kernel_rfl) rfl ?_
  conv=>whnf
  refine⟨_,Rd.whole hbm,?_⟩
  conv=>whnf
  refine dec_intro (by omega) ?_
  conv=>whnf
  refine⟨_,hrd _ _ (Sub.refl _),?_⟩
  conv=>whnf
  refine dec_intro (by omega) ?_
  conv=>whnf
  refine⟨_,hx _ _ (Sub.refl _),?_⟩
  conv=>whnf
  refine (c122 m[k][i] _).val fun H1 s1=>?_
  conv=>whnf
  rfl
theorem c53 (m : Mx) (hlm:m.length < 1000000) (H:PH) (u:Value) (hu:MatH H u m):Cl Tryz.prog 121 [u] H emp fun r _ M'=>OutO M' r (DaggerMF m):=by
  obtain⟨base,cap,rfl⟩:=hu.sl
  refine Cl_of (pol:=fun | 1=>.imm | _=>.loc) Γok Tryz.func121 (by kernel_rfl) rfl ?_
  conv=>whnf
  intro bm hbm _
  conv=>whnf
  have s1:=sub_ins H (.cells ⟨[.slice base m.length cap]⟩ 23 (0,0)) hbm
  refine (c29 m _ _ hlm (hu.up s1)).val fun H2 s4=>?_
  conv=>whnf
  unfold DaggerMF
  refine if_intro (fun he=>?_) (fun he=>?_)
  · conv=>whnf
    have he:checkMF m ≠ 0:=by simpa using he
    rw[resM_bad he]
    exact OutO.bad
  have he:checkMF m=0:=by simpa using he
  have rm:=right_of he
  have hu2:=(hu.up s1).up s4
  have hml:=rm.le
  have hwl:=rm.wle
  have hmp:=rm.pos
  obtain⟨bu,ou,ru,cu,rfl,hru,_⟩:=hu2.at rm.pos
  rw[← wideM_get rm.pos] at hru
  conv=>whnf
  refine W_draw (pol:=polL) Γok mixes [(0,.pendO),(1,.pendO),(2,.pendO),(3,.pendO),(4,.pendO),(5,.pendO),(6,.pendO),(7,.lock),(8,.pendO),(9,.pendO),(10,.pendO),(11,.pendO)] 20 (by kernel_rfl) rfl ?_
  conv=>whnf
  refine dec_intro (by omega) ?_
  conv=>whnf
  refine⟨_,hru _ _ (Sub.refl _),?_⟩
  conv=>whnf
  refine (c81 (daggerAt m) (wideM m) m.length (by omega) (by omega) _ _ _ _ fun i k hi hk=>⟨206,[],[_],rfl,fun H' hs'=>?_⟩).mono fun r H4 M4 s6 hr=>?_
  · have r1:=rm.row _ (List.getElem_mem hk)
    unfold daggerAt
    rw[entry_get hk (by omega)]
    exact c128 m i k hk (by omega) H' _ _ _ (hu2.up hs') (hs' _ _ (s4 _ _ (ins_same _ _ _)))
  obtain⟨y,rfl,hx⟩:=MadeE.out (by omega) (by omega) hr he
  conv=>whnf
  exact⟨y,rfl,hx⟩
def daggerAtR (m : Mx) (i k:Nat):(P4 × Int) × Int:=((ConjR (entry m k i)).1,0)
def DaggerMR (m : Mx):Mx × Int:=resM (checkMR m) (daggerAtR m) (wideM m) m.length
theorem c57 (m : Mx) (H:PH) (u:Value) (hu:MatH H u m):Cl Tryz.prog 118 [u] H emp fun r H' _=>OutH H' r (DaggerMR m):=by
  obtain⟨base,cap,rfl⟩:=hu.sl
  refine Cl_of (pol:=(fun | 50=>.imm | _=>.loc)) Γok Tryz.func118 (by kernel_rfl) rfl ?_
  conv=>whnf
  refine (c30 m _ _ hu).val fun H1 s1=>?_
  conv=>whnf
  unfold DaggerMR
  refine if_intro (fun he=>?_) (fun he=>?_)
  · conv=>whnf
    have he:checkMR m ≠ 0:=by simpa using he
    rw[resM_bad he]
    exact OutH.bad
  have hA:checkMR m=0:=by simpa using he
  have rm:=right_of ((checkMF_checkMR m).trans hA)
  replace hu:=hu.up s1
  obtain⟨b,off,bb,cc,rfl,hrd0,_⟩:=hu.at rm.pos
  rw[← wideM_get rm.pos] at hrd0
  have hml:=rm.le
  have hwl:=rm.wle
  have hmp:=rm.pos
  generalize hF:daggerAtR m=F
  conv=>whnf
  refine dec_intro (by omega) ?_
  conv=>whnf
  refine⟨_,hrd0 _ _ (Sub.refl _),?_⟩
  conv=>whnf
  refine dec_intro (Int.le_refl _) ?_
  conv=>whnf
  refine dec_intro (by omega) ?_
  conv=>whnf
  refine dec_intro (by omega) ?_
  conv=>whnf
  intro b0 hb0 _
  conv=>whnf
  refine W_repart ?_
  refine W_loopX (pol:=(fun | 50=>.imm | _=>.loc)) Γok (Nat × PH × List Value × PH) (fun i=>i.1≤(wideM m)∧Sub H1 i.2.1∧firstErr (errsE F (wideM m) m.length)=firstErr ((errsE F (wideM m) m.length).drop (i.1*m.length))∧GridO i.2.1 i.2.2.2 b0 (wideM m) i.2.2.1 (gridM F i.1 m.length)) (fun i=>(wideM m) - i.1)
    (fun e i=>e=.exit 0∧Sub H1 i.2.1∧firstErr (errsE F (wideM m) m.length)=0∧GridO i.2.1 i.2.2.2 b0 (wideM m) i.2.2.1 (gridM F (wideM m) m.length)) (fun i=>[(6,.v (.int .i64 i.1))]) (fun _=>[]) (fun i=>i.2.1) (fun i=>i.2.2.2) ⟨(0,H1,[],ins emp b0 (.cells ⟨(List.replicate (wideM m) [Value.slice none 0 0]).flatten⟩ 31 (0,0))),⟨by simp,Sub.refl _,by simp,GridO.start b0 (wideM m) emp⟩,rfl,rfl,?_⟩ ?_ ?_
  · conv=>whnf
    repeat (refine⟨rfl,?_⟩;conv=>whnf)
    exact trivial
  · rintro ⟨i,H',us,O'⟩ ⟨h1,h2,h3,h4⟩
    dsimp only at h1 h2 h3 h4
    conv=>whnf
    refine if_intro (fun h=>?_) (fun h=>?_)
    · have hi:i < (wideM m):=by simpa using h
      have hus:us.length=i:=by rw[h4.rows.1];simp[gridM]
      conv=>whnf
      refine W_repart ?_
      refine W_loopX (pol:=(fun | 50=>.imm | _=>.loc)) Γok (Nat × PH × Value × PH) (fun k=>k.1≤m.length∧Sub H' k.2.1∧firstErr (errsE F (wideM m) m.length)=firstErr ((errsE F (wideM m) m.length).drop (i*m.length+k.1))∧GridC k.2.1 k.2.2.2 b0 (wideM m) us (gridM F i m.length) k.2.2.1 (gridRow F i k.1)) (fun k=>m.length - k.1)
        (fun e k=>e=.exit 2∧Sub H' k.2.1∧firstErr (errsE F (wideM m) m.length)=firstErr ((errsE F (wideM m) m.length).drop ((i+1)*m.length))∧GridC k.2.1 k.2.2.2 b0 (wideM m) us (gridM F i m.length) k.2.2.1 (gridRow F i m.length)) (fun k=>[(7,.v (.int .i64 k.1))]) (fun _=>[]) (fun k=>k.2.1) (fun k=>k.2.2.2) ⟨(0,H',.slice none 0 0,O'),⟨by simp,Sub.refl _,h3,h4.next (by omega)⟩,rfl,rfl,?_⟩ ?_ ?_
      · conv=>whnf
        repeat (refine⟨rfl,?_⟩;conv=>whnf)
        exact trivial
      · rintro ⟨k,H3,cur,O3⟩ ⟨k1,k2,k3,k4⟩
        dsimp only at k1 k2 k3 k4
        conv=>whnf
        refine if_intro (fun h=>?_) (fun h=>?_)
        · have hk:k < m.length:=by
            have:(k:Int) < ((m.length:Nat):Int):=by simpa using h
            omega
          obtain⟨b2,off2,bb2,cc2,hbe,hrd,hn⟩:=(hu.up h2).at hk
          cases hbe
          have hwk:m[k].length=wideM m:=rm.row _ (List.getElem_mem hk)
          obtain⟨b3,off3,rfl,hx⟩:=hn.at (i:=i) (by omega)
          have hFik:F i k=((ConjR m[k][i]).1,0):=by
            rw[← hF]
            unfold daggerAtR
            rw[entry_get hk (by omega)]
          have he:(F i k).2=0:=by rw[hFik]
          have hF1:(F i k).1=(ConjR m[k][i]).1:=by rw[hFik]
          conv=>whnf
          refine dec_intro (by omega) ?_
          conv=>whnf
          refine⟨_,hrd _ _ k2,?_⟩
          conv=>whnf
          refine dec_intro (by omega) ?_
          conv=>whnf
          refine⟨_,hx _ _ k2,?_⟩
          conv=>whnf
          refine (c116 m[k][i] _).val fun H4 s4=>?_
          replace k4:=k4.up s4
          conv=>whnf
          intro bx
          conv=>whnf
          rw[← hF1]
          conv=>whnf
          refine W_draw (pol:=(fun | 50=>.imm | _=>.loc)) Γok mixes [(0,.pendH),(1,.pendH),(2,.pendO),(3,.pendO),(4,.pendO),(5,.pendO),(6,.pendO),(7,.lock),(8,.lock),(9,.pendO),(10,.lock)] 54 (by kernel_rfl) rfl ?_
          conv=>whnf
          refine dec_intro (by omega) ?_
          conv=>whnf
          refine⟨_,k4.rd hus.symm,?_⟩
          conv=>whnf
          intro b5 hb5 hO5
          conv=>whnf
          refine append_one' (xs:=(gridRow F i k).map cellsOf) (y:=cellsOf (F i k).1) k4.row rfl rfl (cellsOf_one _) ⟨_,_,_,rfl,rfl,Rd.whole (ins_same _ _ _)⟩ ?_ fun v2 O4 hO4 hkeep=>?_
          · simp[gridRow]
            omega
          obtain⟨vb,vn,vc,rfl⟩:=OwnS.sl hO4
          conv=>whnf
          refine dec_intro (by omega) ?_
          conv=>whnf
          obtain⟨cs,q1,q2,q3⟩:=k4.step (l':=gridRow F i (k+1)) hus.symm (by rw[gridRow_succ,NumO,List.map_append];exact hO4) hkeep
          refine⟨cs,_,q1,q2,?_⟩
          conv=>whnf
          have s5:=sub_ins H4 (.cells ⟨cellsOf (F i k).1⟩ 33 (0,0)) hb5
          refine⟨(k+1,ins H4 b5 (.cells ⟨cellsOf (F i k).1⟩ 33 (0,0)),.slice vb vn vc,_),⟨hk,k2.trans (s4.trans s5),?_,q3.up s5⟩,by dsimp only;omega,?_⟩
          · rw[k3,errsE_at hi hk,if_pos he]
          · conv=>whnf
            refine⟨rfl,rfl,?_⟩
            conv=>whnf
            repeat (refine⟨rfl,?_⟩;conv=>whnf)
            refine⟨by show En.v (.int .i64 (IntKind.i64.wrap (k+1)))=_;rw[wrap_id (by omega) (by omega)];rfl,?_⟩
            conv=>whnf
            repeat (refine⟨rfl,?_⟩;conv=>whnf)
            exact trivial
        · have hk:m.length=k:=by
            have:¬ (k:Int) < ((m.length:Nat):Int):=by simpa using h
            omega
          conv=>whnf
          refine .inr ⟨(k,H3,cur,O3),⟨rfl,k2,?_,?_⟩,?_⟩
          · rw[k3,← hk,Nat.succ_mul]
          · rw[← hk] at k4
            rw[← hk]
            exact k4
          · conv=>whnf
            refine⟨rfl,rfl,?_⟩
            conv=>whnf
            repeat (refine⟨rfl,?_⟩;conv=>whnf)
            exact trivial
      · rintro e ⟨k,H3,cur,O3⟩ ⟨rfl,k2,k3,k4⟩
        dsimp only at k2 k3 k4
        refine .inr fun hd=>?_
        obtain⟨H4,O4,rp,g4⟩:=k4.done hd
        refine⟨H4,O4,rp,?_⟩
        conv=>whnf
        refine⟨(i+1,H4,us++[cur],O4),⟨hi,h2.trans (k2.trans rp.sub),k3,?_⟩,by dsimp only;omega,?_⟩
        · rw[gridM_succ];exact g4
        · conv=>whnf
          refine⟨rfl,rfl,?_⟩
          conv=>whnf
          repeat (refine⟨rfl,?_⟩;conv=>whnf)
          refine⟨by show En.v (.int .i64 (IntKind.i64.wrap (i+1)))=_;rw[wrap_id (by omega) (by omega)];rfl,?_⟩
          conv=>whnf
          repeat (refine⟨rfl,?_⟩;conv=>whnf)
          exact trivial
    · have hi:(wideM m)=i:=by
        have:¬ (i:Int) < (((wideM m):Nat):Int):=by simpa using h
        omega
      conv=>whnf
      refine .inr ⟨(i,H',us,O'),⟨rfl,h2,?_,?_⟩,?_⟩
      · rw[h3,← hi,errsE_end]
      · rw[← hi] at h4
        rw[← hi]
        exact h4
      · conv=>whnf
        refine⟨rfl,rfl,?_⟩
        conv=>whnf
        repeat (refine⟨rfl,?_⟩;conv=>whnf)
        exact trivial
  · rintro e ⟨i,H',us,O'⟩ ⟨rfl,h2,h3,h4⟩
    dsimp only at h2 h3 h4
    refine .inr fun hd=>?_
    obtain⟨H4,O4,rp,g4⟩:=h4.mat hd (by rw[h4.rows.1];simp[gridM])
    refine⟨H4,O4,rp,?_⟩
    conv=>whnf
    rw[resM_ok hA h3]
    exact⟨_,rfl,g4⟩
theorem DaggerM_eq (m : Mx):DaggerMF m=DaggerMR m:=by
  refine resM_congr (checkMF_checkMR m) fun h i k hi hk=>?_
  have he:=entry_right h hk hi
  unfold daggerAt daggerAtR
  rw[← Conj_eq]
  unfold ConjF
  rw[if_pos he]
  have:(leastF (conjP (entry m k i).1) (entry m k i).2).2=0:=by
    have:=congrArg Prod.snd (Conj_eq (entry m k i))
    unfold ConjF ConjR at this
    rw[if_pos he,if_neg (by rw[← checkF_checkR,he];simp)] at this
    exact this
  exact Prod.ext rfl this
def sumG (f : P4 × Int→P4 × Int→(P4 × Int) × Int):P4 × Int→List (P4 × Int)→(P4 × Int) × Int
  | o,[]=>(o,0)
  | o,x::l=>if (f o x).2 ≠ 0 then ((P4.zero,0),(f o x).2) else sumG f (f o x).1 l
theorem sumG_step {f : P4 × Int→P4 × Int→(P4 × Int) × Int} {o:P4 × Int} {l:List (P4 × Int)} {i:Nat} (hi:i < l.length) :
    sumG f o (l.drop i)=if (f o l[i]).2 ≠ 0 then ((P4.zero,0),(f o l[i]).2) else sumG f (f o l[i]).1 (l.drop (i+1)):=by
  rw[List.drop_eq_getElem_cons hi]
  rfl
theorem fitsR_zero {p : P4} {k:Int} (h:(fitsR p k).2 ≠ 0):(fitsR p k).1=(P4.zero,0):=by
  unfold fitsR at *
  split
  · rfl
  · rename_i h';rw[if_neg h'] at h;exact absurd rfl h
theorem fitsR_right {p : P4} {k:Int} (h:(fitsR p k).2=0):checkF (fitsR p k).1.1 (fitsR p k).1.2=0:=by
  unfold fitsR at *
  split
  · rename_i h';rw[if_pos h'] at h;cases h
  · rename_i h';rw[checkF_checkR];simpa using h'
theorem AddR_zero {x y : P4 × Int} (h:(AddR x y).2 ≠ 0):(AddR x y).1=(P4.zero,0):=by
  unfold AddR at *
  split
  · rfl
  · rename_i h';rw[if_neg h'] at h;exact fitsR_zero h
theorem AddR_right {x y : P4 × Int} (h:(AddR x y).2=0):checkF (AddR x y).1.1 (AddR x y).1.2=0:=by
  unfold AddR at *
  split
  · show checkF P4.zero 0=0
    decide
  · rename_i h';rw[if_neg h'] at h;exact fitsR_right h
def SumF (l : List (P4 × Int)):(P4 × Int) × Int:=if errsF l ≠ 0 then ((P4.zero,0),errsF l) else sumG AddF (P4.zero,0) l
def SumR (l : List (P4 × Int)):(P4 × Int) × Int:=if errsR l ≠ 0 then ((P4.zero,0),errsR l) else sumG AddR (P4.zero,0) l
theorem Sum_eq (l : List (P4 × Int)):SumF l=SumR l:=by
  unfold SumF SumR
  rw[errs_same,show AddF=AddR from funext fun x=>funext fun y=>Add_eq x y]
theorem c131 (l : List (P4 × Int)) (hl:l.length < 1000000) (H:PH) (v:Value) (hv:NumH H v l):Cl Tryz.prog 205 [v] H emp fun r _ _=>r=ne (SumR l):=by
  obtain⟨base,cap,rfl,_⟩:=id hv
  refine Cl_of (pol:=polL) Γok Tryz.func205 (by kernel_rfl) rfl ?_
  conv=>whnf
  intro b2
  conv=>whnf
  unfold SumR
  refine (c94 l _ _ hv (by omega)).val fun H1 s1=>?_
  conv=>whnf
  refine if_intro (fun he=>?_) (fun he=>?_)
  · conv=>whnf
    rw[if_pos (show errsR l ≠ 0 by simpa using he)]
    rfl
  rw[if_neg (show ¬ errsR l ≠ 0 by simpa using he)]
  conv=>whnf
  intro b5
  conv=>whnf
  refine W_loop (pol:=polL) Γok (Nat × PH × (P4 × Int) × Int) (fun i=>i.1≤l.length∧Sub H1 i.2.1∧((i.2.2.2=0∧sumG AddR (P4.zero,0) l=sumG AddR i.2.2.1 (l.drop i.1))∨(i.2.2.2 ≠ 0∧sumG AddR (P4.zero,0) l=i.2.2))) (fun i=>l.length - i.1) (fun i=>[(7,.v (.int .i64 i.1)),(6,.v (.int .i64 i.2.2.2))]) (fun i=>[(1,cellsOf i.2.2.1)]) (fun i=>i.2.1) (fun _=>emp) ⟨(0,H1,(P4.zero,0),0),⟨by simp,Sub.refl _,.inl ⟨rfl,by simp⟩⟩,rfl,rfl,?_⟩ ?_
  · conv=>whnf
    repeat (refine⟨rfl,?_⟩;conv=>whnf)
    exact trivial
  · rintro ⟨i,H',o,e⟩ ⟨h1,h2,h3⟩
    dsimp only at h1 h2 h3
    conv=>whnf
    refine if_intro (fun h=>?_) (fun h=>?_)
    · have hi:i < l.length:=by simpa using h
      obtain⟨b,off,rfl,hx⟩:=hv.at hi
      conv=>whnf
      refine if_intro (fun h=>?_) (fun h=>?_)
      · have he:e=0:=by simpa using h
        rcases h3 with⟨_,h3⟩ | ⟨h3,_⟩
        rotate_left
        · exact absurd he h3
        rw[sumG_step hi] at h3
        conv=>whnf
        refine W_draw (pol:=polL) Γok mixes [(0,.pendO),(1,.pendO),(2,.pendO),(3,.pendO),(4,.pendO),(5,.lock),(6,.pendO),(7,.pendO),(8,.pendH),(9,.lock),(10,.pendO)] 35 (by kernel_rfl) rfl ?_
        conv=>whnf
        refine dec_intro (by simpa using hi) ?_
        conv=>whnf
        refine⟨_,hx _ _ (s1.trans h2),?_⟩
        conv=>whnf
        refine (c105 o l[i] _).val fun H2 s2=>?_
        conv=>whnf
        refine⟨(i+1,H2,(AddR o l[i]).1,(AddR o l[i]).2),⟨hi,h2.trans s2,?_⟩,by dsimp only;omega,?_⟩
        · dsimp only
          by_cases ha:(AddR o l[i]).2=0
          · rw[if_neg (by simpa using ha)] at h3
            exact .inl ⟨ha,h3⟩
          · rw[if_pos ha] at h3
            exact .inr ⟨ha,by rw[h3,AddR_zero ha]⟩
        · conv=>whnf
          refine⟨rfl,rfl,?_⟩
          conv=>whnf
          repeat (refine⟨rfl,?_⟩;conv=>whnf)
          refine⟨by show En.v (.int .i64 (IntKind.i64.wrap (i+1)))=_;rw[wrap_id (by omega) (by omega)];rfl,?_⟩
          conv=>whnf
          repeat (refine⟨rfl,?_⟩;conv=>whnf)
          exact trivial
      · have he:e ≠ 0:=by simpa using h
        rcases h3 with⟨h3,_⟩ | ⟨_,h3⟩
        · exact absurd h3 he
        conv=>whnf
        rw[h3]
        rfl
    · have hi:l.length≤i:=by simpa using h
      conv=>whnf
      have h3':sumG AddR (P4.zero,0) l=(o,e):=by
        rcases h3 with⟨h3,h4⟩ | ⟨_,h3⟩
        · rw[h4,List.drop_of_length_le hi,h3];rfl
        · exact h3
      rw[h3']
      rfl
end Go.Proofs.YtgbhgfdgifkdhaaGreat

namespace Go.Proofs.YtgbhgfdgifkdhaaGreat
open Go.Proofs.YtgbhgfdgifkdhaaGreat.X Go.Proofs.YtgbhgfdgifkdhaaGreat.X.PH
set_option maxRecDepth 100000
theorem NumH.whole {H : PH} {base:Option Addr} {n cap:Nat} {l:List (P4 × Int)} (h:NumH H (.slice base n cap) l):(base=none→l.length=0)∧∀ O a,base=some a→0 < l.length→Rd H O a (l.length*5) (cellsN l):=by
  obtain⟨_,_,hv,h⟩:=h
  cases hv
  rcases h with⟨h,_⟩ | ⟨b,off,c,t,fr,rfl,h2,h3⟩
  · exact⟨fun _=>h,fun _ _ _ hp=>by omega⟩
  · refine⟨fun h=>(by cases h),fun O a ha _=>?_⟩
    cases ha
    rw[cellsN_length] at h3
    exact⟨rfl,cellsN_length l,c,t,fr,.inl h2,h3⟩
theorem checks2_of {x y : P4 × Int} (hx:checkF x.1 x.2=0) (hy:checkF y.1 y.2=0):checks2 x y=0:=by
  unfold checks2 errsF
  simp[firstErr,hx,hy]
theorem c132 (l : List (P4 × Int)) (hl:l.length < 1000000) (H:PH) (v:Value) (hv:NumH H v l):Cl Tryz.prog 207 [v] H emp fun r _ _=>r=ne (SumF l):=by
  obtain⟨base,cap,rfl,_⟩:=id hv
  refine Cl_of (pol:=polL) Γok Tryz.func207 (by kernel_rfl) rfl ?_
  conv=>whnf
  intro b2
  conv=>whnf
  refine dec_intro (Int.le_refl _) ?_
  conv=>whnf
  refine dec_intro (by omega) ?_
  conv=>whnf
  refine dec_intro (by omega) ?_
  conv=>whnf
  intro bw hbw _
  conv=>whnf
  unfold copyK
  refine⟨some ⟨bw,0,none⟩,l.length,l.length,base,l.length,cap,cellsN l,rfl,rfl,by rw[Nat.min_self,cellsN_length],cellsN_one l,(NumH.whole hv).1,fun a ha hp=>?_,fun h=>(by cases h),fun a ha=>⟨bw,0,(List.replicate l.length [Value.int .i64 0,.int .i64 0,.int .i64 0,.int .i64 0,.int .i64 0]).flatten,_,(by cases ha;rfl),ins_same _ _ _,by simp,?_⟩⟩
  · rw[Nat.min_self] at hp ⊢
    exact (NumH.whole hv).2 _ a ha hp
  have ec:(List.replicate l.length [Value.int .i64 0,.int .i64 0,.int .i64 0,.int .i64 0,.int .i64 0]).flatten.take 0++cellsN l++(List.replicate l.length [Value.int .i64 0,.int .i64 0,.int .i64 0,.int .i64 0,.int .i64 0]).flatten.drop (0+min l.length l.length*5)=cellsN l:=by
    rw[Nat.min_self,List.take_zero,List.nil_append,List.drop_of_length_le (by simp),List.append_nil]
  rw[ec]
  have s1:=sub_ins H (.cells ⟨cellsN l⟩ 33 (0,0)) hbw
  have hw:NumH (ins H bw (.cells ⟨cellsN l⟩ 33 (0,0))) (.slice (some ⟨bw,0,none⟩) l.length l.length) l:=one_row (ins_same _ _ _) rfl
  have hc:=c161 l _ _ hw (by omega)
  conv=>whnf
  refine Cl.pub (ins_same _ _ _) (fun _=>?_) hc.ent
  rw[show del (ins (ins emp bw _) bw _) bw=emp by funext n;unfold del ins emp;by_cases e:n=bw<;>simp[e]]
  unfold SumF
  refine hc.val fun H1 s2=>?_
  replace hw:=hw.up s2
  conv=>whnf
  refine if_intro (fun he=>?_) (fun he=>?_)
  · conv=>whnf
    rw[if_pos (show errsF l ≠ 0 by simpa using he)]
    rfl
  have he:errsF l=0:=by simpa using he
  rw[if_neg (show ¬ errsF l ≠ 0 by simpa using he)]
  have hright:∀ x∈l,checkF x.1 x.2=0:=fun x hx=>firstErr_zero he _ (List.mem_map.2 ⟨x,hx,rfl⟩)
  clear hc hv
  conv=>whnf
  intro b6
  conv=>whnf
  refine W_loop (pol:=polL) Γok (Nat × PH × (P4 × Int)) (fun i=>i.1≤l.length∧Sub H1 i.2.1∧checkF i.2.2.1 i.2.2.2=0∧sumG AddF (P4.zero,0) l=sumG AddF i.2.2 (l.drop i.1)) (fun i=>l.length - i.1) (fun i=>[(26,.v (.int .i64 i.1))]) (fun i=>[(1,cellsOf i.2.2)]) (fun i=>i.2.1) (fun _=>emp) ⟨(0,H1,(P4.zero,0)),⟨by simp,Sub.refl _,show checkF P4.zero 0=0 by decide,by simp⟩,rfl,rfl,?_⟩ ?_
  · conv=>whnf
    repeat (refine⟨rfl,?_⟩;conv=>whnf)
    exact trivial
  · rintro ⟨i,H',o⟩ ⟨h1,h2,h3,h4⟩
    dsimp only at h1 h2 h3 h4
    conv=>whnf
    refine if_intro (fun h=>?_) (fun h=>?_)
    · have hi:i < l.length:=by simpa using h
      obtain⟨b,off,hb,hx⟩:=hw.at hi
      cases hb
      have hxi:=hright _ (List.getElem_mem hi)
      have hck:=checks2_of h3 hxi
      obtain⟨k1,k2⟩:=maxI_bounds hck
      have hA:AddF o l[i]=addG (fun a b=>wr (a+b)) o l[i]:=by unfold AddF;rw[if_pos hck]
      rw[sumG_step hi] at h4
      conv=>whnf
      refine dec_intro (by simpa using hi) ?_
      conv=>whnf
      refine⟨_,hx _ _ h2,?_⟩
      conv=>whnf
      intro b8
      conv=>whnf
      refine W_draw (pol:=polL) Γok mixes [(0,.pendO),(2,.pend),(1,.lock),(3,.lock),(4,.pendO),(5,.pendO),(6,.pendH),(7,.late),(8,.lock),(9,.pendO)] 44 (by kernel_rfl) rfl ?_
      conv=>whnf
      refine (c151 o.1 o.2 _).val fun H2 s3=>?_
      conv=>whnf
      refine (c165 (fun a b=>wr (a+b)) 240 c178 o l[i] k1 k2 _).val fun H3 s4=>?_
      rw[← hA]
      conv=>whnf
      intro b9
      conv=>whnf
      refine if_intro (fun he=>?_) (fun he=>?_)
      · have he:(AddF o l[i]).2 ≠ 0:=by simpa using he
        rw[if_pos he] at h4
        conv=>whnf
        rw[h4]
        rfl
      have he:(AddF o l[i]).2=0:=by simpa using he
      rw[if_neg (by simpa using he)] at h4
      conv=>whnf
      refine⟨(i+1,H3,(AddF o l[i]).1),⟨hi,h2.trans (s3.trans s4),?_,h4⟩,by dsimp only;omega,?_⟩
      · have hr:=he
        dsimp only
        rw[Add_eq] at hr ⊢
        exact AddR_right hr
      conv=>whnf
      refine⟨rfl,rfl,?_⟩
      conv=>whnf
      repeat (refine⟨rfl,?_⟩;conv=>whnf)
      refine⟨by show En.v (.int .i64 (IntKind.i64.wrap (i+1)))=_;rw[wrap_id (by omega) (by omega)];rfl,?_⟩
      conv=>whnf
      repeat (refine⟨rfl,?_⟩;conv=>whnf)
      exact trivial
    · have hi:l.length≤i:=by simpa using h
      rw[List.drop_of_length_le hi] at h4
      conv=>whnf
      rw[h4]
      rfl
def diagL (m : Mx) (n:Nat):List (P4 × Int):=(List.range n).map fun i=>entry m i i
theorem diagL_succ (m : Mx) (n:Nat):diagL m (n+1)=diagL m n++[entry m n n]:=by
  unfold diagL
  rw[List.range_succ,List.map_append]
  rfl
theorem diagL_len (m : Mx) (n:Nat):(diagL m n).length=n:=by simp[diagL]
def TraceF (m : Mx):(P4 × Int) × Int:=if checkMF m ≠ 0 then ((P4.zero,0),checkMF m) else if m.length ≠ wideM m then ((P4.zero,0),7) else SumF (diagL m m.length)
theorem c60 (m : Mx) (hlm:m.length < 1000000) (H:PH) (u:Value) (hu:MatH H u m):Cl Tryz.prog 122 [u] H emp fun r _ _=>r=ne (TraceF m):=by
  obtain⟨base,cap,rfl⟩:=hu.sl
  refine Cl_of (pol:=(fun | 30=>.imm | _=>.loc)) Γok Tryz.func122 (by kernel_rfl) rfl ?_
  conv=>whnf
  intro b2
  conv=>whnf
  unfold TraceF
  refine (c29 m _ _ hlm hu).val fun H1 s1=>?_
  conv=>whnf
  refine if_intro (fun he=>?_) (fun he=>?_)
  · conv=>whnf
    rw[if_pos (show checkMF m ≠ 0 by simpa using he)]
    rfl
  have he:checkMF m=0:=by simpa using he
  rw[if_neg (show ¬ checkMF m ≠ 0 by simpa using he)]
  have rm:=right_of he
  have hml:=rm.le
  have hmp:=rm.pos
  replace hu:=hu.up s1
  conv=>whnf
  refine (c79 m rm.pos _ _ hu).val fun H2 s2=>?_
  replace hu:=hu.up s2
  conv=>whnf
  refine if_intro (fun hs=>?_) (fun hs=>?_)
  · conv=>whnf
    rw[if_pos (show m.length ≠ wideM m from fun e=>by rw[← e] at hs;simp at hs)]
    rfl
  have hsq:m.length=wideM m:=by
    have:((m.length:Int) == (wideM m:Int))=true:=by simpa using hs
    have:=eq_of_beq this
    omega
  rw[if_neg (show ¬ m.length ≠ wideM m by simpa using hsq)]
  conv=>whnf
  refine W_repart ?_
  refine W_loopX (pol:=(fun | 30=>.imm | _=>.loc)) Γok (Nat × PH × Value × PH) (fun i=>i.1≤m.length∧Sub H2 i.2.1∧NumO i.2.2.2 i.2.2.1 (diagL m i.1)) (fun i=>m.length - i.1) (fun e i=>e=.exit 0∧Sub H2 i.2.1∧NumO i.2.2.2 i.2.2.1 (diagL m m.length)) (fun i=>[(20,.v (.int .i64 i.1)),(5,.v i.2.2.1)]) (fun _=>[]) (fun i=>i.2.1) (fun i=>i.2.2.2) ⟨(0,H2,.slice none 0 0,emp),⟨by simp,Sub.refl _,?_⟩,rfl,rfl,?_⟩ ?_ ?_
  · exact⟨by simp[diagL],.inl ⟨rfl,by simp[diagL]⟩⟩
  · conv=>whnf
    repeat (refine⟨rfl,?_⟩;conv=>whnf)
    exact trivial
  · rintro ⟨i,H',out,O'⟩ ⟨h1,h2,h3⟩
    dsimp only at h1 h2 h3
    conv=>whnf
    refine if_intro (fun h=>?_) (fun h=>?_)
    · have hi:i < m.length:=by simpa using h
      have hii:i < m[i].length:=by rw[rm.row _ (List.getElem_mem hi)];omega
      obtain⟨b,off,bb,cc,hbe,hrd,hn⟩:=hu.at hi
      cases hbe
      obtain⟨b1,off1,rfl,hx⟩:=hn.at hii
      have hent:entry m i i=m[i][i]:=entry_get hi hii
      conv=>whnf
      refine dec_intro (by omega) ?_
      conv=>whnf
      refine⟨_,hrd _ _ h2,?_⟩
      conv=>whnf
      refine dec_intro (by omega) ?_
      conv=>whnf
      refine⟨_,hx _ _ h2,?_⟩
      conv=>whnf
      intro b3 hb3 hO3
      conv=>whnf
      refine append_one (xs:=(diagL m i).map cellsOf) (y:=cellsOf m[i][i]) h3 rfl rfl (cellsOf_one _) ⟨_,_,_,rfl,rfl,Rd.whole (ins_same _ _ _)⟩ ?_ fun v O2 hO2 hfr=>?_
      · simp only[List.length_map,diagL_len]
        omega
      conv=>whnf
      refine⟨(i+1,ins H' b3 (.cells ⟨cellsOf m[i][i]⟩ 33 (0,0)),v,O2),⟨hi,h2.trans (sub_ins _ _ hb3),?_⟩,by dsimp only;omega,?_⟩
      · dsimp only
        rw[diagL_succ,hent,NumO,List.map_append]
        exact hO2
      · conv=>whnf
        refine⟨rfl,rfl,?_⟩
        conv=>whnf
        repeat (refine⟨rfl,?_⟩;conv=>whnf)
        refine⟨by show En.v (.int .i64 (IntKind.i64.wrap (i+1)))=_;rw[wrap_id (by omega) (by omega)];rfl,?_⟩
        conv=>whnf
        repeat (refine⟨rfl,?_⟩;conv=>whnf)
        exact trivial
    · have hi:m.length=i:=by
        have:¬ i < m.length:=by simpa using h
        omega
      conv=>whnf
      rw[← hi] at h3
      refine .inr ⟨(i,H',out,O'),⟨rfl,h2,h3⟩,rfl,rfl,?_⟩
      conv=>whnf
      repeat (refine⟨rfl,?_⟩;conv=>whnf)
      exact trivial
  rintro e ⟨i,H',out,O'⟩ ⟨rfl,h2,h3⟩
  dsimp only at h2 h3
  refine .inr fun hd=>?_
  obtain⟨H3,O3,rp,hn3⟩:=NumO.pub hd h3
  refine⟨H3,O3,rp,?_⟩
  conv=>whnf
  refine (c132 (diagL m m.length) (by rw[diagL_len];omega) H3 _ hn3).val fun H4 s4=>?_
  conv=>whnf
  rfl
theorem c58 (m : Mx) (hlm:m.length < 1000000) (H:PH) (u:Value) (hu:MatH H u m):Cl Tryz.prog 119 [u] H emp fun r _ _=>r=ne (TraceF m):=by
  obtain⟨base,cap,rfl⟩:=hu.sl
  refine Cl_of (pol:=(fun | 35=>.imm | _=>.loc)) Γok Tryz.func119 (by kernel_rfl) rfl ?_
  conv=>whnf
  intro b2
  conv=>whnf
  unfold TraceF
  refine (c30 m _ _ hu).val fun H1 s1=>?_
  rw[← checkMF_checkMR]
  conv=>whnf
  refine if_intro (fun he=>?_) (fun he=>?_)
  · conv=>whnf
    rw[if_pos (show checkMF m ≠ 0 by simpa using he)]
    rfl
  have he:checkMF m=0:=by simpa using he
  rw[if_neg (show ¬ checkMF m ≠ 0 by simpa using he)]
  have rm:=right_of he
  have hml:=rm.le
  have hmp:=rm.pos
  replace hu:=hu.up s1
  obtain⟨b,off,bb,cc,rfl,hrd0,_⟩:=hu.at rm.pos
  rw[← wideM_get rm.pos] at hrd0
  obtain⟨H2,hH2⟩:∃ X,X=H1:=⟨_,rfl⟩
  subst hH2
  conv=>whnf
  refine dec_intro (by omega) ?_
  conv=>whnf
  refine⟨_,hrd0 _ _ (Sub.refl _),?_⟩
  conv=>whnf
  refine if_intro (fun hs=>?_) (fun hs=>?_)
  · conv=>whnf
    rw[if_pos (show m.length ≠ wideM m from fun e=>by rw[← e] at hs;simp at hs)]
    rfl
  have hsq:m.length=wideM m:=by
    have:((m.length:Nat):Int)=((wideM m:Nat):Int):=by simpa using hs
    omega
  rw[if_neg (show ¬ m.length ≠ wideM m by simpa using hsq)]
  conv=>whnf
  refine W_repart ?_
  refine W_loopX (pol:=(fun | 35=>.imm | _=>.loc)) Γok (Nat × PH × Value × PH) (fun i=>i.1≤m.length∧Sub H2 i.2.1∧NumO i.2.2.2 i.2.2.1 (diagL m i.1)) (fun i=>m.length - i.1) (fun e i=>e=.exit 0∧Sub H2 i.2.1∧NumO i.2.2.2 i.2.2.1 (diagL m m.length)) (fun i=>[(6,.v (.int .i64 i.1)),(5,.v i.2.2.1)]) (fun _=>[]) (fun i=>i.2.1) (fun i=>i.2.2.2) ⟨(0,H2,.slice none 0 0,emp),⟨by simp,Sub.refl _,?_⟩,rfl,rfl,?_⟩ ?_ ?_
  · exact⟨by simp[diagL],.inl ⟨rfl,by simp[diagL]⟩⟩
  · conv=>whnf
    repeat (refine⟨rfl,?_⟩;conv=>whnf)
    exact trivial
  · rintro ⟨i,H',out,O'⟩ ⟨h1,h2,h3⟩
    dsimp only at h1 h2 h3
    conv=>whnf
    refine if_intro (fun h=>?_) (fun h=>?_)
    · have hi:i < m.length:=by simpa using h
      have hii:i < m[i].length:=by rw[rm.row _ (List.getElem_mem hi)];omega
      obtain⟨b,off,bb,cc,hbe,hrd,hn⟩:=hu.at hi
      cases hbe
      obtain⟨b1,off1,rfl,hx⟩:=hn.at hii
      have hent:entry m i i=m[i][i]:=entry_get hi hii
      conv=>whnf
      refine dec_intro (by omega) ?_
      conv=>whnf
      refine⟨_,hrd _ _ h2,?_⟩
      conv=>whnf
      refine dec_intro (by omega) ?_
      conv=>whnf
      refine⟨_,hx _ _ h2,?_⟩
      conv=>whnf
      intro b3 hb3 hO3
      conv=>whnf
      refine append_one (xs:=(diagL m i).map cellsOf) (y:=cellsOf m[i][i]) h3 rfl rfl (cellsOf_one _) ⟨_,_,_,rfl,rfl,Rd.whole (ins_same _ _ _)⟩ ?_ fun v O2 hO2 hfr=>?_
      · simp only[List.length_map,diagL_len]
        omega
      conv=>whnf
      refine⟨(i+1,ins H' b3 (.cells ⟨cellsOf m[i][i]⟩ 33 (0,0)),v,O2),⟨hi,h2.trans (sub_ins _ _ hb3),?_⟩,by dsimp only;omega,?_⟩
      · dsimp only
        rw[diagL_succ,hent,NumO,List.map_append]
        exact hO2
      · conv=>whnf
        refine⟨rfl,rfl,?_⟩
        conv=>whnf
        repeat (refine⟨rfl,?_⟩;conv=>whnf)
        refine⟨by show En.v (.int .i64 (IntKind.i64.wrap (i+1)))=_;rw[wrap_id (by omega) (by omega)];rfl,?_⟩
        conv=>whnf
        repeat (refine⟨rfl,?_⟩;conv=>whnf)
        exact trivial
    · have hi:m.length=i:=by
        have:¬ i < m.length:=by simpa using h
        omega
      conv=>whnf
      rw[← hi] at h3
      refine .inr ⟨(i,H',out,O'),⟨rfl,h2,h3⟩,rfl,rfl,?_⟩
      conv=>whnf
      repeat (refine⟨rfl,?_⟩;conv=>whnf)
      exact trivial
  rintro e ⟨i,H',out,O'⟩ ⟨rfl,h2,h3⟩
  dsimp only at h2 h3
  refine .inr fun hd=>?_
  obtain⟨H3,O3,rp,hn3⟩:=NumO.pub hd h3
  refine⟨H3,O3,rp,?_⟩
  conv=>whnf
  refine (c131 (diagL m m.length) (by rw[diagL_len];omega) H3 _ hn3).val fun H4 s4=>?_
  rw[← Sum_eq]
  conv=>whnf
  rfl
end Go.Proofs.YtgbhgfdgifkdhaaGreat

namespace Go.Proofs.YtgbhgfdgifkdhaaGreat
open Go.Proofs.YtgbhgfdgifkdhaaGreat.X Go.Proofs.YtgbhgfdgifkdhaaGreat.X.PH
set_option maxRecDepth 100000
theorem right_in {x : P4 × Int} (h:checkF x.1 x.2=0):0≤x.2∧x.2≤60∧x.1.within 1073741824:=by
  have:=checkF_range h
  exact⟨this.1,this.2.1,(all_iff (by decide) (by decide)).1 this.2.2⟩
theorem in_right {x : P4 × Int} (h0:0≤x.2) (h1:x.2≤60) (h:x.1.within 1073741824):checkF x.1 x.2=0:=by
  unfold checkF
  rw[show (decide (x.2 < 0) || decide (x.2 > 60))=false by simp;omega,(all_iff (by decide) (by decide)).2 h]
  rfl
def sumP (x y : P4 × Int):P4:=pl (rz (max x.2 y.2 - x.2).toNat x.1) (rz (max x.2 y.2 - y.2).toNat y.1)
theorem Add_fits {x y : P4 × Int} (hx:checkF x.1 x.2=0) (hy:checkF y.1 y.2=0):AddR x y=fitsR (sumP x y) (max x.2 y.2)∧(sumP x y).within 2305843009213693952:=by
  obtain⟨x0,xk,wx⟩:=right_in hx
  obtain⟨y0,yk,wy⟩:=right_in hy
  have hw:(sumP x y).within 2305843009213693952:=pl_within (rz_within wx (by omega)) (rz_within wy (by omega)) (by decide)
  refine⟨?_,hw⟩
  rw[← Add_eq]
  unfold AddF
  rw[if_pos (checks2_of hx hy)]
  have mx:maxI x.2 y.2=max x.2 y.2:=by unfold maxI;split<;>omega
  unfold addG raisedF
  rw[mx,wr_id (n:=max x.2 y.2 - x.2) (by omega) (by omega),wr_id (n:=max x.2 y.2 - y.2) (by omega) (by omega)]
  rw[raiseP_rz wx _ (by omega),raiseP_rz wy _ (by omega),opP_pl (rz_within wx (by omega)) (rz_within wy (by omega))]
  exact least_fits (fine_of hw) (by omega)
theorem Mul_fits {x y : P4 × Int} (hx:checkF x.1 x.2=0) (hy:checkF y.1 y.2=0):MulR x y=fitsR (pz x.1 y.1) (x.2+y.2)∧(pz x.1 y.1).fine:=by
  obtain⟨x0,xk,wx⟩:=right_in hx
  obtain⟨y0,yk,wy⟩:=right_in hy
  refine⟨?_,pz_fine wx wy⟩
  unfold MulR
  rw[errs_same,if_neg (show ¬ errsF [x,y] ≠ 0 from fun h=>h (checks2_of hx hy)),wr_id (by omega) (by omega),product_pz wx wy]
def cz (p : P4):P4:=⟨p.a,-p.d,-p.c,-p.b⟩
theorem cz_within {p : P4} {n:Int} (h:p.within n):(cz p).within n:=by
  unfold P4.within at *
  unfold cz
  dsimp only
  omega
theorem conjP_cz {p : P4} (h:p.within 1073741824):conjP p=cz p:=by
  unfold P4.within at h
  unfold conjP cz
  rw[wr_id (by omega) (by omega),wr_id (by omega) (by omega),wr_id (by omega) (by omega)]
  simp
theorem Conj_form {x : P4 × Int} (hx:checkF x.1 x.2=0):ConjR x=(formR (cz x.1) x.2,0)∧checkF (cz x.1) x.2=0:=by
  obtain⟨x0,xk,wx⟩:=right_in hx
  refine⟨?_,in_right (x:=(cz x.1,x.2)) x0 xk (cz_within wx)⟩
  unfold ConjR
  rw[if_neg (by rw[← checkF_checkR,hx];simp),conjP_cz wx]
theorem lowerR_endF : ∀ (k:Nat) (p:P4),p.fine→p.isZero=false→((lowerR k p).2=0∨evenR (lowerR k p).1=false)∧(lowerR k p).1.isZero=false
  | 0,p,_,hz=>⟨.inl rfl,hz⟩
  | k+1,p,h,hz=>by
    unfold lowerR
    cases he:evenR p with
    | true=>
      simp only[if_true]
      obtain⟨_,h2,h3,h4⟩:=half_fine h he
      rw[h2]
      refine lowerR_endF k (hf p) h3 ?_
      rw[← tw_zero,h4]
      exact hz
    | false=>
      simp only[Bool.false_eq_true,if_false]
      exact⟨.inr he,hz⟩
theorem formR_idem {p : P4} {k:Int} (h:p.fine) (hk:0≤k):formR (formR p k).1 (formR p k).2=formR p k:=by
  cases hz:p.isZero with
  | true=>
    have:p=P4.zero:=isZero_eq hz
    subst this
    rfl
  | false=>
    rw[formR_eq hk hz]
    dsimp only
    obtain⟨h1,h2⟩:=lowerR_endF k.toNat p h hz
    rw[formR_eq (Int.natCast_nonneg _) h2,Int.toNat_natCast,lowerR_stop h1]
structure IsL (z : P4 × Int):Prop where
  ok:checkF z.1 z.2=0
  form:formR z.1 z.2=z
theorem IsL.least {z : P4 × Int} (h:IsL z):LeastF z.1 z.2=(z,0):=by rw[LeastF_eq h.ok,h.form]
theorem fits_L {p : P4} {k:Int} (h:p.fine) (hk:0≤k) (he:(fitsR p k).2=0):IsL (fitsR p k).1:=by
  refine⟨fitsR_right he,?_⟩
  unfold fitsR at *
  split
  · rfl
  · exact formR_idem h hk
theorem Add_errs {x y : P4 × Int} (h:(AddR x y).2=0):checkF x.1 x.2=0∧checkF y.1 y.2=0:=by
  unfold AddR at h
  split at h
  · rename_i h';exact absurd h h'
  · rename_i h'
    rw[errs_same] at h'
    exact checks2_zero (by simpa[checks2] using h')
theorem Mul_errs {x y : P4 × Int} (h:(MulR x y).2=0):checkF x.1 x.2=0∧checkF y.1 y.2=0:=by
  unfold MulR at h
  split at h
  · rename_i h';exact absurd h h'
  · rename_i h'
    rw[errs_same] at h'
    exact checks2_zero (by simpa[checks2] using h')
theorem Add_L {x y : P4 × Int} (h:(AddR x y).2=0):IsL (AddR x y).1:=by
  obtain⟨hx,hy⟩:=Add_errs h
  obtain⟨e,hw⟩:=Add_fits hx hy
  have:=right_in hx
  rw[e] at h ⊢
  exact fits_L (fine_of hw) (by omega) h
theorem Mul_L {x y : P4 × Int} (h:(MulR x y).2=0):IsL (MulR x y).1:=by
  obtain⟨hx,hy⟩:=Mul_errs h
  obtain⟨e,hw⟩:=Mul_fits hx hy
  have:=right_in hx
  have:=right_in hy
  rw[e] at h ⊢
  exact fits_L hw (by omega) h
theorem form_L {p : P4} {k:Int} (h:checkF p k=0):IsL (formR p k):=⟨(formR_right h).1,(formR_right h).2⟩
theorem Conj_L {x : P4 × Int} (h:checkF x.1 x.2=0):IsL (ConjR x).1:=by
  obtain⟨e,hc⟩:=Conj_form h
  rw[e]
  exact form_L hc
theorem zero_L : IsL (P4.zero,0):=⟨by decide,rfl⟩
theorem one_L : IsL oneN:=⟨by decide,rfl⟩
theorem dotStep_L {o z : P4 × Int} {f:Bool} {w:P4 × Int} (h:(dotStepR o z f w).2=0):IsL (dotStepR o z f w).1:=by
  unfold dotStepR at *
  dsimp only at *
  by_cases hm:(MulR z w).2=0
  · rw[if_pos hm] at *
    cases f with
    | true=>
      simp only[if_true] at *
      rw[if_pos hm]
      exact Mul_L hm
    | false=>
      simp only[Bool.false_eq_true,if_false] at *
      by_cases ha:(AddR o (MulR z w).1).2=0
      · rw[if_pos ha]
        exact Add_L ha
      · rw[if_neg ha] at h
        exact absurd h ha
  · rw[if_neg hm] at *
    rw[if_neg hm] at h
    exact absurd h hm
theorem dotR_L {x y : Nat→P4 × Int}:∀ n,(dotR x y n).2=0→IsL (dotR x y n).1
  | 0,_=>zero_L
  | n+1,h=>by
    unfold dotR at *
    by_cases h':(dotR x y n).2=0
    · rw[if_pos h'] at *
      exact dotStep_L h
    · rw[if_neg h'] at *
      exact absurd h h'
theorem movedM_shape (t : Nat→Nat) (n:Nat):∀ k,(movedM t n k).length=n∧∀ (i:Nat) (r:List (P4 × Int)),(movedM t n k)[i]?=some r→r.length=n
  | 0=>⟨by simp[movedM],fun i r hr=>by
    simp[movedM,List.getElem?_replicate] at hr
    rw[← hr.2]
    simp[zeros]⟩
  | k+1=>setM_shape (movedM_shape t n k).1 (movedM_shape t n k).2 _ _ _
theorem movedM_entry {t : Nat→Nat} {n:Nat} (ht:∀ k,k < n→t k < n):∀ k,k≤n→∀ i j,i < n→j < n→entry (movedM t n k) i j=if j < k∧i=t j then oneN else (P4.zero,0)
  | 0,_,i,j,hi,hj=>by simp[movedM,entry,zeros,List.getElem?_replicate,hi,hj]
  | k+1,hk,i,j,hi,hj=>by
    obtain⟨s1,s2⟩:=movedM_shape t n k
    show entry (setM (movedM t n k) (t k) k oneN) i j=_
    rw[entry_set s1 s2 _ (ht k (by omega)) (by omega),movedM_entry ht k (by omega) i j hi hj]
    by_cases e:j=k
    · subst e
      by_cases e':i=t j
      · rw[if_pos ⟨e',rfl⟩,if_pos ⟨by omega,e'⟩]
      · rw[if_neg (fun h=>e' h.1),if_neg (fun h=>e' h.2),if_neg (fun h=>e' h.2)]
    · rw[if_neg (fun h=>e h.2)]
      by_cases e':j < k∧i=t j
      · rw[if_pos e',if_pos ⟨by omega,e'.2⟩]
      · rw[if_neg e',if_neg (fun h=>e' ⟨by omega,h.2⟩)]
theorem grid_right (F : Nat→Nat→(P4 × Int) × Int) {h w:Nat} (h1:0 < h) (h2:h≤64) (w1:0 < w) (w2:w≤64):Right (gridM F h w)∧wideM (gridM F h w)=w:=by
  obtain⟨s1,s2⟩:=gridM_shape F h w
  have hw:wideM (gridM F h w)=w:=by
    rw[wideM_get (by omega)]
    exact s2 0 _ (List.getElem?_eq_getElem _)
  refine⟨⟨by omega,by omega,fun r hr=>?_,by omega,by omega⟩,hw⟩
  obtain⟨i,hi⟩:=List.mem_iff_getElem?.1 hr
  rw[hw]
  exact s2 i r hi
theorem id_right {n : Nat} (h1:0 < n) (h2:n≤64) (t:Nat→Nat):Right (movedM t n n)∧wideM (movedM t n n)=n:=by
  obtain⟨s1,s2⟩:=movedM_shape t n n
  have hw:wideM (movedM t n n)=n:=by
    rw[wideM_get (by omega)]
    exact s2 0 _ (List.getElem?_eq_getElem _)
  refine⟨⟨by omega,by omega,fun r hr=>?_,by omega,by omega⟩,hw⟩
  obtain⟨i,hi⟩:=List.mem_iff_getElem?.1 hr
  rw[hw]
  exact s2 i r hi
theorem check_grid {m : Mx} (rm:Right m) (h:∀ i k,i < m.length→k < wideM m→checkF (entry m i k).1 (entry m i k).2=0):checkMF m=0:=by
  rw[checkMF_checkMR]
  unfold checkMR
  rw[show (decide ((m.length:Int) < 1) || decide ((m.length:Int) > 64))=false by have:=rm.pos;have:=rm.le;simp;omega]
  have hb:m.any (badRow m)=false:=by
    rw[List.any_eq_false]
    intro r hr
    have h1:=rm.row r hr
    have h2:=rm.wpos
    have h3:=rm.wle
    unfold badRow
    have:(m.headD []).length=wideM m:=rfl
    rw[this]
    simp
    omega
  rw[hb]
  simp only[Bool.false_eq_true,if_false]
  refine firstErr_all fun e he=>?_
  obtain⟨r,hr,rfl⟩:=List.mem_map.1 he
  refine firstErr_all fun e he=>?_
  obtain⟨x,hx,rfl⟩:=List.mem_map.1 he
  obtain⟨i,hi,rfl⟩:=List.mem_iff_getElem.1 hr
  obtain⟨k,hk,rfl⟩:=List.mem_iff_getElem.1 hx
  have:=h i k hi (by rw[← rm.row _ hr];exact hk)
  rw[entry_get hi hk] at this
  rw[← checkF_checkR]
  exact this
end Go.Proofs.YtgbhgfdgifkdhaaGreat

namespace Go.Proofs.YtgbhgfdgifkdhaaGreat
open Go.Proofs.YtgbhgfdgifkdhaaGreat.X Go.Proofs.YtgbhgfdgifkdhaaGreat.X.PH
set_option maxRecDepth 100000
theorem dagger_ok {m : Mx} (h:checkMF m=0):DaggerMF m=(gridM (daggerAtR m) (wideM m) m.length,0):=by
  rw[DaggerM_eq]
  exact resM_ok ((checkMF_checkMR m).symm.trans h) (errs_zero fun _ _ _ _=>rfl)
theorem dagger_check {m : Mx} (h:checkMF m=0):checkMF (gridM (daggerAtR m) (wideM m) m.length)=0:=by
  have rm:=right_of h
  obtain⟨rd,hw⟩:=grid_right (daggerAtR m) rm.wpos rm.wle rm.pos rm.le
  refine check_grid rd fun i k hi hk=>?_
  rw[hw] at hk
  rw[(gridM_shape _ _ _).1] at hi
  rw[gridM_entry _ hi hk]
  exact (Conj_L (entry_right h hk hi)).ok
def unitP (m : Mx):Mx × Int:=MulMR (gridM (daggerAtR m) (wideM m) m.length) m
def isUnit (p : Mx) (n:Nat):Bool:=(List.range (n*n)).all fun t=>eqN (entry p (t / n) (t % n)) (if t / n=t % n then oneN else (P4.zero,0))
def UnitaryR (m : Mx):Bool × Int:=
  if checkMF m ≠ 0 then (false,checkMF m) else if m.length ≠ wideM m then (false,0) else if (unitP m).2 ≠ 0 then (false,(unitP m).2) else (isUnit (unitP m).1 m.length,0)
theorem unitP_err {m : Mx} (h:checkMF m=0) (hs:m.length=wideM m):mulErr (gridM (daggerAtR m) (wideM m) m.length) m=0:=by
  have rm:=right_of h
  obtain⟨rd,hw⟩:=grid_right (daggerAtR m) rm.wpos rm.wle rm.pos rm.le
  unfold mulErr bothErr errsM
  rw[hw]
  simp[firstErr,dagger_check h,h]
theorem unitP_ok {m : Mx} (h:checkMF m=0) (hs:m.length=wideM m) (he:(unitP m).2=0):(unitP m).1=gridM (mulAtR (gridM (daggerAtR m) (wideM m) m.length) m) m.length m.length ∧
    ∀ i k,i < m.length→k < m.length→IsL (entry (unitP m).1 i k):=by
  have rm:=right_of h
  have hE:=unitP_err h hs
  have hsh:=(gridM_shape (daggerAtR m) (wideM m) m.length).1
  have hF:firstErr (errsE (mulAtR (gridM (daggerAtR m) (wideM m) m.length) m) m.length m.length)=0:=by
    unfold unitP MulMR at he
    rw[hsh,← hs] at he
    by_cases hx:firstErr (errsE (mulAtR (gridM (daggerAtR m) m.length m.length) m) m.length m.length)=0
    · rw[← hs];exact hx
    · rw[← hs] at hE
      rw[resM_err hE rfl hx] at he
      exact absurd he hx
  have e:(unitP m).1=gridM (mulAtR (gridM (daggerAtR m) (wideM m) m.length) m) m.length m.length:=by
    unfold unitP MulMR
    rw[hsh]
    rw[← hs] at hE hF ⊢
    rw[resM_ok hE hF]
  refine⟨e,fun i k hi hk=>?_⟩
  rw[e,gridM_entry _ hi hk]
  have hz:=firstErr_zero hF
  have hlt:i*m.length+k < m.length*m.length:=by
    have:=Nat.mul_le_mul_right m.length (show i+1≤m.length by omega)
    rw[Nat.succ_mul] at this
    omega
  have:=hz (mulAtR (gridM (daggerAtR m) (wideM m) m.length) m i k).2 (by
    unfold errsE
    refine List.mem_map.2 ⟨i*m.length+k,List.mem_range.2 hlt,?_⟩
    rw[(divmod hk).1,(divmod hk).2])
  unfold mulAtR at this ⊢
  exact dotR_L _ this
theorem c134 (k : Nat) (H:PH):Cl Tryz.prog 208 [.int .i64 k] H emp fun r _ _=>r=.int .i64 k:=by
  refine Cl_of (pol:=polL) Γok Tryz.func208 (by kernel_rfl) rfl ?_
  conv=>whnf
theorem c61 (m : Mx) (hlm:m.length < 1000000) (H:PH) (u:Value) (hu:MatH H u m):Cl Tryz.prog 123 [u] H emp fun r _ _=>r=.tuple #[.bool (UnitaryR m).1,.int .i64 (UnitaryR m).2]:=by
  obtain⟨base,cap,rfl⟩:=hu.sl
  refine Cl_of (pol:=polL) Γok Tryz.func123 (by kernel_rfl) rfl ?_
  conv=>whnf
  unfold UnitaryR
  refine (Cl.outH (c53 m hlm H _ hu)).use fun r H1 s1 hr=>?_
  obtain⟨_,d,rfl,hd⟩:=hr
  replace hu:=hu.up s1
  conv=>whnf
  by_cases he:checkMF m=0
  rotate_left
  · rw[if_pos he]
    have hD:DaggerMF m=([],checkMF m):=resM_bad he
    rw[hD]
    refine if_intro (fun _=>?_) (fun h=>?_)
    · conv=>whnf
    · have:checkMF m=0:=by simpa using h
      exact absurd this he
  rw[if_neg (by simpa using he)]
  have rm:=right_of he
  have hml:=rm.le
  have hmp:=rm.pos
  rw[dagger_ok he] at hd ⊢
  dsimp only at hd
  conv=>whnf
  refine (c79 m rm.pos _ _ hu).val fun H2 s2=>?_
  replace hu:=hu.up s2
  replace hd:=hd.up s2
  conv=>whnf
  refine if_intro (fun hs=>?_) (fun hs=>?_)
  · conv=>whnf
    rw[if_pos (show m.length ≠ wideM m from fun e=>by rw[← e] at hs;simp at hs)]
  have hsq:m.length=wideM m:=by
    have:((m.length:Int) == (wideM m:Int))=true:=by simpa using hs
    have:=eq_of_beq this
    omega
  rw[if_neg (by simpa using hsq)]
  obtain⟨rd,hw⟩:=grid_right (daggerAtR m) rm.wpos rm.wle rm.pos rm.le
  have hsh:=(gridM_shape (daggerAtR m) (wideM m) m.length).1
  have hmul:=c112 (gridM (daggerAtR m) (wideM m) m.length) m (by omega) rm.pos (by omega) (by omega) (fun r hr=>by rw[rd.row r hr,hw]) rm.row _ _ _ hd hu
  have hP:unitP m=resM 0 (mulAt (gridM (daggerAtR m) (wideM m) m.length) m) (wideM m) (wideM m):=by
    unfold unitP
    rw[← MulM_eq]
    unfold MulMF
    rw[hsh,unitP_err he hsq]
  conv=>whnf
  refine (Cl.outH (x:=unitP m) (hmul.mono fun r H' M' _ hr=>?_)).use fun r H3 s3 hr=>?_
  · rw[hP]
    rw[hsh] at hr
    exact hr.out (by omega) (by omega) rfl
  obtain⟨_,p,rfl,hp⟩:=hr
  conv=>whnf
  refine if_intro (fun h=>?_) (fun h=>?_)
  · conv=>whnf
    rw[if_pos (show (unitP m).2 ≠ 0 by simpa using h)]
  have h2:(unitP m).2=0:=by simpa using h
  rw[if_neg (by simpa using h2)]
  obtain⟨p1,p2⟩:=unitP_ok he hsq h2
  conv=>whnf
  refine (c133h (fun k=>k) m.length (by omega) (fun k hk=>hk) _ _ _ _ (fun k hk=>⟨208,[],[],rfl,fun H' _=>c134 k H'⟩)).use fun q H4 s4 hq=>?_
  obtain⟨_,hq⟩:=hq
  obtain⟨ri,iw⟩:=id_right rm.pos rm.le (fun k=>k)
  obtain⟨rp,pw⟩:=grid_right (mulAtR (gridM (daggerAtR m) (wideM m) m.length) m) rm.pos rm.le rm.pos rm.le
  rw[← p1] at rp pw
  have pl:(unitP m).1.length=m.length:=by rw[p1];exact (gridM_shape _ _ _).1
  have il:=(movedM_shape (fun k=>k) m.length m.length).1
  conv=>whnf
  refine (c103 (unitP m).1 (movedM (fun k=>k) m.length m.length) rp ri (by unfold alikeF;rw[pl,pw,il,iw];simp) _ _ _ (hp.up s4) hq).val fun H5 s5=>?_
  conv=>whnf
  congr 4
  rw[pl,pw]
  unfold isUnit
  refine all_congr fun t ht=>?_
  have t1:t / m.length < m.length:=Nat.div_lt_of_lt_mul ht
  have t2:t % m.length < m.length:=Nat.mod_lt _ rm.pos
  unfold samePl
  rw[pw,(p2 _ _ t1 t2).least,movedM_entry (fun k hk=>hk) m.length (Nat.le_refl _) _ _ t1 t2]
  by_cases e:t / m.length=t % m.length
  · rw[if_pos ⟨t2,e⟩,if_pos e,one_L.least]
  · rw[if_neg (fun h=>e h.2),if_neg e,zero_L.least]
end Go.Proofs.YtgbhgfdgifkdhaaGreat
