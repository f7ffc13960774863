/- A logic for code of the model, proved sound, and what functions do that the laws on matrices come to; nothing is asked. Part 4. -/
import Derived.Test.YtgbhgfdgifkdhaaGreatM3

set_option linter.unusedVariables false
set_option linter.unusedSimpArgs false
set_option linter.unnecessarySimpa false

namespace Go.Proofs.YtgbhgfdgifkdhaaGreat
open Go.Proofs.YtgbhgfdgifkdhaaGreat.X Go.Proofs.YtgbhgfdgifkdhaaGreat.X.PH
set_option maxRecDepth 100000
theorem mat2 {H : PH} {b:Nat} {u1 u2:Value} {r1 r2:List (P4 × Int)} (hb:H b=some (.cells ⟨[u1,u2]⟩ 31 (0,0))) (h1:NumH H u1 r1) (h2:NumH H u2 r2):MatH H (.slice (some ⟨b,0,none⟩) 2 2) [r1,r2]:=by
  refine⟨[u1,u2],rfl,⟨_,_,rfl,.inr ⟨b,0,_,_,_,rfl,hb,rfl⟩⟩,fun i r u hr hu=>?_⟩
  match i,hr,hu with
  | 0,hr,hu=>cases hr;cases hu;exact h1
  | 1,hr,hu=>cases hr;cases hu;exact h2
theorem quad_num {H : PH} {b:Nat} {x y z t:P4 × Int} (hb:H b=some (.cells ⟨cellsOf x++cellsOf y++cellsOf z++cellsOf t⟩ 33 (0,0))):NumH H (.slice (some ⟨b,0,none⟩) 4 4) [x,y,z,t]:=
  ⟨_,_,rfl,.inr ⟨b,0,_,_,_,rfl,hb,rfl⟩⟩
theorem c142b (k : Nat) (hk:k < 2) (H:PH):Cl Tryz.prog 193 [.int .i64 k] H emp fun v _ _=>v=.int .i64 (tX k):=by
  refine (c142 k H).mono fun v _ _ _ hv=>hv.trans ?_
  obtain rfl | rfl:k=0∨k=1:=by omega
  all_goals rfl
theorem c133h (t : Nat→Nat) (n:Nat) (hn:n < 1000000) (ht:∀ k,k < n→t k < n) (H:PH) (fn:Fn) (first cp:Array Value) (hf:∀ k,k < n→Does Tryz.prog H (.func fn first cp) [.int .i64 k] fun r _=>r=.int .i64 (t k)) :
    Cl Tryz.prog 192 [.int .i64 n,.func fn first cp] H emp fun r H' _=>MatH H' r (movedM t n n):=
  (c133 t n hn ht H fn first cp hf).repart fun _ _ _ _ hd ⟨_,h⟩=>⟨_,_,.all hd,h.mat hd⟩
theorem c143h (l : List (P4 × Int)) (hn:l.length < 1000000) (H:PH) (v:Value) (hv:NumH H v l) :
    Cl Tryz.prog 194 [v] H emp fun r H' _=>MatH H' r (diagM l l.length):=
  (c143 l hn H v hv).repart fun _ _ _ _ hd ⟨_,h⟩=>⟨_,_,.all hd,h.mat hd⟩
def rootN : P4 × Int:=(RootF 1).1
def minusN : P4 × Int:=(NegF rootN).1
def opM : Nat→List (List (P4 × Int))
  | 1=>movedM tX 2 2
  | 2=>[[(P4.zero,0),OmegaF 6],[OmegaF 2,(P4.zero,0)]]
  | 3=>diagM [oneN,OmegaF 4] 2
  | 4=>[[rootN,rootN],[rootN,minusN]]
  | 5=>diagM [oneN,OmegaF 2] 2
  | 6=>diagM [oneN,OmegaF 6] 2
  | 7=>diagM [oneN,OmegaF 1] 2
  | 8=>diagM [oneN,OmegaF 7] 2
  | 9=>movedM tCX 4 4
  | 10=>diagM [oneN,oneN,oneN,OmegaF 4] 4
  | 11=>movedM tSwap 4 4
  | 12=>movedM tCCX 8 8
  | _=>[]
inductive Sp where
  | skip
  | val (x:Value)
  | nums (l:List (P4 × Int))
  | mat (m:List (List (P4 × Int)))
def Sp.holds (H : PH) (v:Value):Sp→Prop
  | .skip=>True
  | .val x=>v=x
  | .nums l=>NumH H v l
  | .mat m=>MatH H v m
theorem Sp.up {H H' : PH} {v:Value} {s:Sp} (hs:Sub H H') (h:s.holds H v):s.holds H' v:=by
  cases s with
  | skip=>exact trivial
  | val x=>exact h
  | nums l=>exact NumH.up h hs
  | mat m=>exact MatH.up h hs
def tabO : List (Nat × Nat × Nat):=[(1,2,1),(2,12,11),(3,18,17),(4,26,25),(5,32,31),(6,38,37),(7,44,43),(8,50,49),(9,52,51),(10,60,59),(11,62,61),(12,64,63)]
def spO : List Sp:=[.skip,
  .mat (opM 1),
  .skip,
  .val (nv (P4.zero,0)),
  .val (.func (.func 92) #[] #[]),
  .val (nv (OmegaF 6)),
  .nums [(P4.zero,0),OmegaF 6],
  .val (.func (.func 92) #[] #[]),
  .val (nv (OmegaF 2)),
  .val (nv (P4.zero,0)),
  .nums [OmegaF 2,(P4.zero,0)],
  .mat [[(P4.zero,0),OmegaF 6],[OmegaF 2,(P4.zero,0)]],
  .skip,
  .val (nv oneN),
  .val (.func (.func 92) #[] #[]),
  .val (nv (OmegaF 4)),
  .nums [oneN,OmegaF 4],
  .mat (opM 3),
  .skip,
  .val (nv rootN),
  .val (nv rootN),
  .nums [rootN,rootN],
  .val (nv rootN),
  .val (nv minusN),
  .nums [rootN,minusN],
  .mat [[rootN,rootN],[rootN,minusN]],
  .skip,
  .val (nv oneN),
  .val (.func (.func 92) #[] #[]),
  .val (nv (OmegaF 2)),
  .nums [oneN,OmegaF 2],
  .mat (opM 5),
  .skip,
  .val (nv oneN),
  .val (.func (.func 92) #[] #[]),
  .val (nv (OmegaF 6)),
  .nums [oneN,OmegaF 6],
  .mat (opM 6),
  .skip,
  .val (nv oneN),
  .val (.func (.func 92) #[] #[]),
  .val (nv (OmegaF 1)),
  .nums [oneN,OmegaF 1],
  .mat (opM 7),
  .skip,
  .val (nv oneN),
  .val (.func (.func 92) #[] #[]),
  .val (nv (OmegaF 7)),
  .nums [oneN,OmegaF 7],
  .mat (opM 8),
  .skip,
  .mat (opM 9),
  .skip,
  .val (nv oneN),
  .val (nv oneN),
  .val (nv oneN),
  .val (.func (.func 92) #[] #[]),
  .val (nv (OmegaF 4)),
  .nums [oneN,oneN,oneN,OmegaF 4],
  .mat (opM 10),
  .skip,
  .mat (opM 11),
  .skip,
  .mat (opM 12),
  .skip,
  .skip,
  .skip]
def keyVal (tab : List (Nat × Nat × Nat)) (L:Nat→Bool) (V:Nat→Value) (n:Int):Option Value:=(tab.find? fun x=>((x.1:Int) == n) && L x.2.1).map fun x=>V x.2.2
def FindI (es : List MapEntry) (S:Int→Option Value):Prop:=∀ n i,(S n=none→Instr.findNow (.int .i64) (.int .i64 n) es i=some none)∧∀ v,S n=some v→∃ j,Instr.findNow (.int .i64) (.int .i64 n) es i=some (some (j,v))
theorem find_push {k : Int} {v:Value} {born:Nat} {n:Int}:∀ (es:List MapEntry) (i:Nat),(∀ j u,Instr.findNow (.int .i64) (.int .i64 n) es i=some (some (j,u))→Instr.findNow (.int .i64) (.int .i64 n) (es++[{ key:=.int .i64 k,val:=v,born }]) i=some (some (j,u))) ∧
    (Instr.findNow (.int .i64) (.int .i64 n) es i=some none→Instr.findNow (.int .i64) (.int .i64 n) (es++[{ key:=.int .i64 k,val:=v,born }]) i=if n=k then some (some (i+es.length,v)) else some none)
  | [],i=>by
    refine⟨fun j u h=>(by cases h),fun _=>?_⟩
    show (match Instr.sameNow (.int .i64) (.int .i64 n) (.int .i64 k) with
      | some true=>some (some (i,v))
      | some false=>some none
      | none=>none)=_
    unfold Instr.sameNow
    simp only[if_true]
    by_cases h:n=k
    · rw[if_pos h,show (n == k)=true by simpa using h];rfl
    · rw[if_neg h,show (n == k)=false by simpa using h]
  | e::es,i=>by
    obtain⟨h1,h2⟩:=find_push (k:=k) (v:=v) (born:=born) (n:=n) es (i+1)
    rw[List.cons_append]
    unfold Instr.findNow
    cases Instr.sameNow (.int .i64) (.int .i64 n) e.key with
    | none=>exact⟨fun j u h=>(by cases h),fun h=>(by cases h)⟩
    | some b=>
      cases b with
      | true=>exact⟨fun j u h=>h,fun h=>(by cases h)⟩
      | false=>
        refine⟨h1,fun h=>?_⟩
        rw[h2 h]
        simp only[List.length_cons]
        rw[show i+1+es.length=i+(es.length+1) by omega]
theorem FindI.push {es : List MapEntry} {S S':Int→Option Value} {k:Int} {v:Value} {born:Nat} (h:FindI es S) (hk:S k=none) (h1:S' k=some v) (h2:∀ n,n ≠ k→S' n=S n):FindI (es++[{ key:=.int .i64 k,val:=v,born }]) S':=by
  intro n i
  obtain⟨p1,p2⟩:=find_push (k:=k) (v:=v) (born:=born) (n:=n) es i
  obtain⟨q1,q2⟩:=h n i
  by_cases e:n=k
  · subst e
    refine⟨fun h=>(by rw[h1] at h;cases h),fun u hu=>?_⟩
    rw[h1] at hu
    cases hu
    rw[p2 (q1 hk),if_pos rfl]
    exact⟨_,rfl⟩
  · rw[h2 n e]
    refine⟨fun h=>(by rw[p2 (q1 h),if_neg e]),fun u hu=>?_⟩
    obtain⟨j,hj⟩:=q2 u hu
    exact⟨j,p1 j u hj⟩
def IO (L : Nat→Bool) (V:Nat→Value) (H O:PH):Prop:=
  (∀ (i:Nat) s,spO[i]?=some s→L i=true→s.holds H (V i))∧(∀ x∈tabO,L x.2.1=true→L x.2.2=true) ∧
  (L 0=true→∃ b es clk,V 0=.map (some b)∧O b=some (.map ⟨es⟩ clk)∧FindI es (keyVal tabO L V)∧(L 65=true→V 65=.map (some b))∧(L 66=true→V 66=.map (some b)))∧(L 0=false→(∀ x∈tabO,L x.2.1=false)∧L 65=false∧L 66=false)
theorem tab_ne0 : ∀ x∈tabO,x.2.1 ≠ 0:=by decide
theorem setV_same (V : Nat→Value) (i:Nat) (v:Value):setV V i v i=v:=by simp[setV]
theorem setV_ne (V : Nat→Value) {i j:Nat} (v:Value) (h:j ≠ i):setV V i v j=V j:=by
  unfold setV
  rw[show (j == i)=false by simpa using h]
  rfl
theorem setL_same (L : Nat→Bool) (i:Nat):setL L i i=true:=by simp[setL]
theorem setL_ne (L : Nat→Bool) {i j:Nat} (h:j ≠ i):setL L i j=L j:=by
  unfold setL
  rw[show (j == i)=false by simpa using h]
  rfl
theorem keyVal_same {tab : List (Nat × Nat × Nat)} {L:Nat→Bool} {V:Nat→Value} {i:Nat} {v:Value} (hi:L i=false) (h1:∀ x∈tab,x.2.1 ≠ i) (h2:∀ x∈tab,L x.2.1=true→L x.2.2=true):keyVal tab (setL L i) (setV V i v)=keyVal tab L V:=by
  funext n
  unfold keyVal
  induction tab with
  | nil=>rfl
  | cons x tab ih=>
    have ih:=ih (fun y hy=>h1 y (by simp[hy])) (fun y hy=>h2 y (by simp[hy]))
    rw[List.find?_cons,List.find?_cons,setL_ne L (h1 x (by simp))]
    cases e:((x.1:Int) == n) && L x.2.1 with
    | false=>exact ih
    | true=>
      simp only[Bool.and_eq_true] at e
      have:=h2 x (by simp) e.2
      have hne:x.2.2 ≠ i:=fun e'=>by rw[e',hi] at this;cases this
      simp only[Option.map_some]
      rw[setV_ne V v hne]
theorem holds_set {L : Nat→Bool} {V:Nat→Value} {H H2:PH} {i:Nat} {v:Value} {s:Sp} (hI:∀ (i:Nat) s,spO[i]?=some s→L i=true→s.holds H (V i)) (hs:Sub H H2) (hsp:spO[i]?=some s) (hv:s.holds H2 v) :
    ∀ (j:Nat) s,spO[j]?=some s→setL L i j=true→s.holds H2 (setV V i v j):=by
  intro j s' hj hL
  by_cases e:j=i
  · subst e
    rw[hsp] at hj
    cases hj
    rw[setV_same]
    exact hv
  · rw[setL_ne L e] at hL
    rw[setV_ne V v e]
    exact Sp.up hs (hI j s' hj hL)
theorem IO_step {L : Nat→Bool} {V:Nat→Value} {H O H2:PH} {i:Nat} {v:Value} {s:Sp} (hI:IO L V H O) (hLi:L i=false) (hs:Sub H H2) (hsp:spO[i]?=some s) (hv:s.holds H2 v)
    (hn:i ≠ 0∧i ≠ 65∧i ≠ 66∧∀ x∈tabO,x.2.1 ≠ i):IO (setL L i) (setV V i v) H2 O:=by
  obtain⟨i1,i2,i3,i4⟩:=hI
  obtain⟨n1,n2,n3,n4⟩:=hn
  refine⟨holds_set i1 hs hsp hv,fun x hx hL=>?_,fun h0=>?_,fun h0=>⟨fun x hx=>?_,?_⟩⟩
  · rw[setL_ne L (n4 x hx)] at hL
    have:=i2 x hx hL
    unfold setL
    rw[this];simp
  · rw[setL_ne L n1.symm] at h0
    obtain⟨b,es,clk,h1,h2,h3,h4,h5⟩:=i3 h0
    rw[keyVal_same hLi n4 i2,setV_ne V v n1.symm,setV_ne V v n2.symm,setV_ne V v n3.symm,setL_ne L n2.symm,setL_ne L n3.symm]
    exact⟨b,es,clk,h1,h2,h3,h4,h5⟩
  · rw[setL_ne L n1.symm] at h0
    rw[setL_ne L (n4 x hx)]
    exact (i4 h0).1 x hx
  · rw[setL_ne L n1.symm] at h0
    rw[setL_ne L n2.symm,setL_ne L n3.symm]
    exact (i4 h0).2
theorem IO_map {L : Nat→Bool} {V:Nat→Value} {H O:PH} {b:Nat} (hI:IO L V H O) (hL:L 0=false):IO (setL L 0) (setV V 0 (.map (some b))) H (ins O b (.map #[] 0)):=by
  obtain⟨i1,i2,i3,i4⟩:=hI
  obtain⟨i4,h65,h66⟩:=i4 hL
  refine⟨holds_set i1 (Sub.refl _) (s:=.skip) rfl trivial,fun x hx hL'=>?_,fun _=>?_,fun h0=>?_⟩
  · rw[setL_ne L (tab_ne0 x hx),i4 x hx] at hL'
    cases hL'
  · refine⟨b,[],0,setV_same _ _ _,ins_same _ _ _,fun n i=>⟨fun _=>rfl,fun v hv=>?_⟩,fun h=>?_,fun h=>?_⟩
    · have hall:∀ x∈tabO,setL L 0 x.2.1=false:=fun x hx=>by
        rw[setL_ne L (tab_ne0 x hx)]
        exact i4 x hx
      unfold keyVal at hv
      rw[show (tabO.find? fun x=>((x.1:Int) == n) && setL L 0 x.2.1)=none from List.find?_eq_none.2 fun x hx=>by rw[hall x hx];simp] at hv
      cases hv
    · rw[setL_ne L (by decide),h65] at h;cases h
    · rw[setL_ne L (by decide),h66] at h;cases h
  · rw[setL_same] at h0;cases h0
theorem tab_uniq : ∀ x∈tabO,∀ y∈tabO,(x.1=y.1∨x.2.1=y.2.1)→x=y:=by decide
theorem keyVal_none {L : Nat→Bool} {V:Nat→Value} {x:Nat × Nat × Nat} (hx:x∈tabO) (hL:L x.2.1=false):keyVal tabO L V x.1=none:=by
  unfold keyVal
  rw[show (tabO.find? fun y=>((y.1:Int) == (x.1:Int)) && L y.2.1)=none from List.find?_eq_none.2 fun y hy h=>?_]
  · rfl
  · simp only[Bool.and_eq_true,beq_iff_eq] at h
    have:=tab_uniq y hy x hx (.inl (by omega))
    rw[this,hL] at h
    cases h.2
theorem keyVal_some {L : Nat→Bool} {V:Nat→Value} {x:Nat × Nat × Nat} (hx:x∈tabO) (hL:L x.2.1=true):keyVal tabO L V x.1=some (V x.2.2):=by
  unfold keyVal
  cases e:tabO.find? fun y=>((y.1:Int) == (x.1:Int)) && L y.2.1 with
  | none=>exact absurd (List.find?_eq_none.1 e x hx) (by simp[hL])
  | some y=>
    have h:=List.find?_some e
    simp only[Bool.and_eq_true,beq_iff_eq] at h
    rw[tab_uniq y (List.mem_of_find?_eq_some e) x hx (.inl (by omega))]
    rfl
theorem keyVal_ins {L : Nat→Bool} {V:Nat→Value} {x:Nat × Nat × Nat} (hx:x∈tabO) {n:Int} (hn:n ≠ x.1) (v:Value) (h22:∀ y∈tabO,y.2.2 ≠ x.2.1):keyVal tabO (setL L x.2.1) (setV V x.2.1 v) n=keyVal tabO L V n:=by
  have key:∀ tab:List (Nat × Nat × Nat),(∀ y∈tab,y∈tabO)→keyVal tab (setL L x.2.1) (setV V x.2.1 v) n=keyVal tab L V n:=by
    intro tab
    induction tab with
    | nil=>intro _;rfl
    | cons y tab ih=>
      intro hy
      have ih:=ih fun z hz=>hy z (by simp[hz])
      unfold keyVal at ih ⊢
      rw[List.find?_cons,List.find?_cons]
      by_cases e:y=x
      · subst e
        rw[show (((y.1:Int)) == n)=false by simpa using fun h=>hn h.symm,Bool.false_and,Bool.false_and]
        exact ih
      · have hne:y.2.1 ≠ x.2.1:=fun h=>e (tab_uniq y (hy y (by simp)) x hx (.inr h))
        rw[setL_ne L hne]
        cases e2:((y.1:Int) == n) && L y.2.1 with
        | false=>exact ih
        | true=>
          simp only[Option.map_some]
          rw[setV_ne V v (h22 y (hy y (by simp)))]
  exact key tabO fun _ h=>h
theorem IO_ins {L : Nat→Bool} {V:Nat→Value} {H O:PH} {x:Nat × Nat × Nat} (hx:x∈tabO) {b:Nat} {es:List MapEntry} {clk:Nat} (hI:IO L V H O) (hL:L x.2.1=false) (hsrc:L x.2.2=true) (h0:L 0=true)
    (hV0:V 0=.map (some b)) (hO:O b=some (.map ⟨es⟩ clk)) {u:Value} (hu:V x.2.2=u):IO (setL L x.2.1) (setV V x.2.1 undef) H (ins O b (.map ((⟨es⟩:Array MapEntry).push { key:=.int .i64 x.1,val:=u,born:=clk }) (clk+1))):=by
  obtain⟨i1,i2,i3,i4⟩:=hI
  have n0:∀ y∈tabO,y.2.1 ≠ 0∧y.2.1 ≠ 65∧y.2.1 ≠ 66∧y.2.2 ≠ 0∧spO[y.2.1]?.isSome=true:=by decide
  have nn:∀ y∈tabO,∀ z∈tabO,z.2.2 ≠ y.2.1:=by decide
  obtain⟨k1,k2,k3,_,_⟩:=n0 x hx
  have hsk:spO[x.2.1]?=some .skip:=by
    have:∀ y∈tabO,spO[y.2.1]?=some .skip:=by
      intro y hy
      simp only[tabO,List.mem_cons,List.not_mem_nil,or_false] at hy
      rcases hy with rfl | rfl | rfl | rfl | rfl | rfl | rfl | rfl | rfl | rfl | rfl | rfl
      all_goals rfl
    exact this x hx
  refine⟨holds_set i1 (Sub.refl _) hsk trivial,fun y hy hL'=>?_,fun _=>?_,fun h=>by rw[setL_ne L k1.symm,h0] at h;cases h⟩
  · rw[setL_ne L (nn x hx y hy)]
    by_cases e:y.2.1=x.2.1
    · rw[tab_uniq y hy x hx (.inr e)]
      exact hsrc
    · rw[setL_ne L e] at hL'
      exact i2 y hy hL'
  · obtain⟨b',es',clk',h1,h2,h3,h4,h5⟩:=i3 h0
    rw[hV0] at h1
    cases h1
    rw[hO] at h2
    cases h2
    refine⟨b,es++[{ key:=.int .i64 x.1,val:=u,born:=clk }],clk+1,by rw[setV_ne V _ k1.symm];exact hV0,by rw[ins_same];simp,?_,?_,?_⟩
    · refine h3.push (keyVal_none hx hL) ?_ fun n hn=>keyVal_ins hx hn _ (nn x hx)
      rw[keyVal_some hx (setL_same _ _),setV_ne V _ (nn x hx x hx),hu]
    · rw[setL_ne L k2.symm,setV_ne V _ k2.symm];exact h4
    · rw[setL_ne L k3.symm,setV_ne V _ k3.symm];exact h5
theorem IO_same {L : Nat→Bool} {V:Nat→Value} {H O:PH} {i:Nat} {v:Value} (hI:IO L V H O) (hLi:L i=false) (h0:L 0=true) (hi:i=65∨i=66) (hv:∀ b,V 0=.map (some b)→v=.map (some b)):IO (setL L i) (setV V i v) H O:=by
  obtain⟨i1,i2,i3,i4⟩:=hI
  have n4:∀ x∈tabO,x.2.1 ≠ i:=by
    have:∀ x∈tabO,x.2.1 ≠ 65∧x.2.1 ≠ 66:=by decide
    intro x hx
    rcases hi with rfl | rfl
    · exact (this x hx).1
    · exact (this x hx).2
  have n1:i ≠ 0:=by omega
  refine⟨holds_set i1 (Sub.refl _) (s:=.skip) (by rcases hi with rfl | rfl<;>rfl) trivial,fun x hx hL=>?_,fun _=>?_,fun h=>by rw[setL_ne L n1.symm,h0] at h;cases h⟩
  · rw[setL_ne L (n4 x hx)] at hL
    have:=i2 x hx hL
    unfold setL
    rw[this];simp
  · obtain⟨b,es,clk,h1,h2,h3,h4,h5⟩:=i3 h0
    rw[keyVal_same hLi n4 i2,setV_ne V v n1.symm]
    refine⟨b,es,clk,h1,h2,h3,fun h=>?_,fun h=>?_⟩
    · by_cases e:i=65
      · subst e;rw[setV_same];exact hv b h1
      · rw[setV_ne V v (Ne.symm e)];rw[setL_ne L (Ne.symm e)] at h;exact h4 h
    · by_cases e:i=66
      · subst e;rw[setV_same];exact hv b h1
      · rw[setV_ne V v (Ne.symm e)];rw[setL_ne L (Ne.symm e)] at h;exact h5 h
def polO : Tmp→Pol:=fun | 20=>.imm | 24=>.imm | 25=>.imm | 29=>.imm | 33=>.imm | 36=>.imm | 37=>.imm | 41=>.imm | 46=>.imm | 51=>.imm | 56=>.imm | 64=>.imm | _=>.loc
def OpsH (H : PH) (r:Value):Prop:=∃ b es clk,r=.map (some b)∧H b=some (.map ⟨es⟩ clk)∧(∀ k,1≤k→k≤12→∃ j u,Instr.findNow (.int .i64) (.int .i64 (k:Nat)) es 0=some (some (j,u))∧MatH H u (opM k))∧∀ n:Int,n < 1∨12 < n→Instr.findNow (.int .i64) (.int .i64 n) es 0=some none
theorem c75 (H : PH):Cl Tryz.prog 107 [] H emp fun r H' _=>OpsH H' r:=by
  refine Cl.repart (Q:=fun r H' M'=>∃ b es clk,r=.map (some b)∧M' b=some (.map ⟨es⟩ clk)∧(∀ k,1≤k→k≤12→∃ j u,Instr.findNow (.int .i64) (.int .i64 (k:Nat)) es 0=some (some (j,u))∧MatH H' u (opM k))∧∀ n:Int,n < 1∨12 < n→Instr.findNow (.int .i64) (.int .i64 n) es 0=some none) ?_ fun r H' M' _ hd ⟨b,es,clk,h1,h2,h3,h4⟩=>⟨_,_,.one hd h2,b,es,clk,h1,ins_same _ _ _,fun k k1 k2=>by
    obtain⟨j,u,h5,h6⟩:=h3 k k1 k2
    exact⟨j,u,h5,h6.up (sub_ins _ _ ((hd b).resolve_right (by rw[h2];simp)))⟩,h4⟩
  refine Cl_of (pol:=polO) Γok Tryz.func107 (by kernel_rfl) rfl ?_
  conv=>whnf
  refine (c140 1 _).val fun H1 s1=>?_
  conv=>whnf
  intro b2
  conv=>whnf
  refine (c141 rootN _).val fun H2 s2=>?_
  conv=>whnf
  intro b4
  conv=>whnf
  refine W_free (pol:=polO) Γok mixes 69 (by kernel_rfl) rfl IO ⟨fun i s _ h=>(by cases h),fun x _ h=>(by cases h),fun h=>(by cases h),fun _=>⟨fun _ _=>rfl,rfl,rfl⟩⟩ ?_ ?_
  · intro i o ho L V H' O' hI hLi hsee
    have hi:i < 67:=(List.getElem?_eq_some_iff.1 ho).1
    have get:∀ (j:Nat) s,spO[j]?=some s→seesB _ o j=true→s.holds H' (V j):=fun j s hj h=>hI.1 j s hj (hsee j h)
    obtain rfl | rfl | rfl | rfl | rfl | rfl | rfl | rfl | rfl | rfl | rfl | rfl | rfl | rfl | rfl | rfl | rfl | rfl | rfl | rfl | rfl | rfl | rfl | rfl | rfl | rfl | rfl | rfl | rfl | rfl | rfl | rfl | rfl | rfl | rfl | rfl | rfl | rfl | rfl | rfl | rfl | rfl | rfl | rfl | rfl | rfl | rfl | rfl | rfl | rfl | rfl | rfl | rfl | rfl | rfl | rfl | rfl | rfl | rfl | rfl | rfl | rfl | rfl | rfl | rfl | rfl | rfl:i=0∨i=1∨i=2∨i=3∨i=4∨i=5∨i=6∨i=7∨i=8∨i=9∨i=10∨i=11∨i=12∨i=13∨i=14∨i=15∨i=16∨i=17∨i=18∨i=19∨i=20∨i=21∨i=22∨i=23∨i=24∨i=25∨i=26∨i=27∨i=28∨i=29∨i=30∨i=31∨i=32∨i=33∨i=34∨i=35∨i=36∨i=37∨i=38∨i=39∨i=40∨i=41∨i=42∨i=43∨i=44∨i=45∨i=46∨i=47∨i=48∨i=49∨i=50∨i=51∨i=52∨i=53∨i=54∨i=55∨i=56∨i=57∨i=58∨i=59∨i=60∨i=61∨i=62∨i=63∨i=64∨i=65∨i=66:=by omega
    ·
      cases ho
      conv=>whnf
      intro b hb hO
      exact⟨⟨_,rfl⟩,_,rfl,IO_map hI hLi⟩
    ·
      cases ho
      conv=>whnf
      refine (c133h tX 2 (by decide) (by decide) _ (.func 193) #[] #[] (fun k hk=>⟨193,[],[],rfl,fun H4 _=>c142b k hk H4⟩)).use fun u H3 s3 hq=>?_
      obtain⟨_,hq⟩:=hq
      conv=>whnf
      exact⟨⟨_,rfl⟩,_,rfl,IO_step hI hLi s3 rfl hq (by decide)⟩
    ·
      cases ho
      have h0:=hsee 0 (by kernel_rfl)
      have hs:=hsee 1 (by kernel_rfl)
      obtain⟨b,es,clk,hV0,hO,hF,_⟩:=hI.2.2.1 h0
      conv=>whnf
      unfold enterK
      refine .inl ?_
      refine⟨.i64,1,b,⟨es⟩,clk,rfl,hV0,hO,(hF 1 0).1 (keyVal_none (x:=(1,2,1)) (by decide) hLi),?_⟩
      conv=>whnf
      exact⟨⟨_,rfl⟩,_,rfl,IO_ins (x:=(1,2,1)) (by decide) hI hLi hs h0 hV0 hO rfl⟩
    ·
      cases ho
      conv=>whnf
      exact⟨⟨_,rfl⟩,_,rfl,IO_step hI hLi (Sub.refl _) rfl rfl (by decide)⟩
    ·
      cases ho
      conv=>whnf
      exact⟨⟨_,rfl⟩,_,rfl,IO_step hI hLi (Sub.refl _) rfl rfl (by decide)⟩
    ·
      cases ho
      have h:=get 4 _ rfl (by kernel_rfl)
      change V 4=_ at h
      conv=>whnf
      rw[h]
      conv=>whnf
      refine (c54 6 _).val fun H3 s3=>?_
      conv=>whnf
      exact⟨⟨_,rfl⟩,_,rfl,IO_step hI hLi s3 rfl rfl (by decide)⟩
    ·
      cases ho
      conv=>whnf
      have h3:=get 3 _ rfl (by kernel_rfl)
      change V 3=_ at h3
      have h5:=get 5 _ rfl (by kernel_rfl)
      change V 5=_ at h5
      rw[h3]
      conv=>whnf
      rw[h5]
      conv=>whnf
      intro b hb hO
      conv=>whnf
      exact⟨⟨_,rfl⟩,_,rfl,IO_step hI hLi (sub_ins _ _ hb) rfl (pair_num (ins_same _ _ _)) (by decide)⟩
    ·
      cases ho
      conv=>whnf
      exact⟨⟨_,rfl⟩,_,rfl,IO_step hI hLi (Sub.refl _) rfl rfl (by decide)⟩
    ·
      cases ho
      have h:=get 7 _ rfl (by kernel_rfl)
      change V 7=_ at h
      conv=>whnf
      rw[h]
      conv=>whnf
      refine (c54 2 _).val fun H3 s3=>?_
      conv=>whnf
      exact⟨⟨_,rfl⟩,_,rfl,IO_step hI hLi s3 rfl rfl (by decide)⟩
    ·
      cases ho
      conv=>whnf
      exact⟨⟨_,rfl⟩,_,rfl,IO_step hI hLi (Sub.refl _) rfl rfl (by decide)⟩
    ·
      cases ho
      conv=>whnf
      have h8:=get 8 _ rfl (by kernel_rfl)
      change V 8=_ at h8
      have h9:=get 9 _ rfl (by kernel_rfl)
      change V 9=_ at h9
      rw[h8]
      conv=>whnf
      rw[h9]
      conv=>whnf
      intro b hb hO
      conv=>whnf
      exact⟨⟨_,rfl⟩,_,rfl,IO_step hI hLi (sub_ins _ _ hb) rfl (pair_num (ins_same _ _ _)) (by decide)⟩
    ·
      cases ho
      have h6:=get 6 _ rfl (by kernel_rfl)
      change NumH _ (V 6) _ at h6
      obtain⟨base6,cap6,e6,_⟩:=id h6
      have h10:=get 10 _ rfl (by kernel_rfl)
      change NumH _ (V 10) _ at h10
      obtain⟨base10,cap10,e10,_⟩:=id h10
      conv=>whnf
      rw[e6]
      conv=>whnf
      rw[e10]
      conv=>whnf
      intro b hb hO
      conv=>whnf
      have f6:=h6
      rw[e6] at f6
      have f10:=h10
      rw[e10] at f10
      refine⟨⟨_,rfl⟩,_,rfl,IO_step hI hLi (sub_ins _ _ hb) rfl (mat2 (ins_same _ _ _) ?_ ?_) (by decide)⟩
      · exact f6.up (sub_ins _ _ hb)
      · exact f10.up (sub_ins _ _ hb)
    ·
      cases ho
      have h0:=hsee 0 (by kernel_rfl)
      have hs:=hsee 11 (by kernel_rfl)
      obtain⟨b,es,clk,hV0,hO,hF,_⟩:=hI.2.2.1 h0
      conv=>whnf
      unfold enterK
      refine .inl ?_
      refine⟨.i64,2,b,⟨es⟩,clk,rfl,hV0,hO,(hF 2 0).1 (keyVal_none (x:=(2,12,11)) (by decide) hLi),?_⟩
      conv=>whnf
      exact⟨⟨_,rfl⟩,_,rfl,IO_ins (x:=(2,12,11)) (by decide) hI hLi hs h0 hV0 hO rfl⟩
    ·
      cases ho
      conv=>whnf
      refine (c74 _).val fun H3 s3=>?_
      conv=>whnf
      exact⟨⟨_,rfl⟩,_,rfl,IO_step hI hLi s3 rfl rfl (by decide)⟩
    ·
      cases ho
      conv=>whnf
      exact⟨⟨_,rfl⟩,_,rfl,IO_step hI hLi (Sub.refl _) rfl rfl (by decide)⟩
    ·
      cases ho
      have h:=get 14 _ rfl (by kernel_rfl)
      change V 14=_ at h
      conv=>whnf
      rw[h]
      conv=>whnf
      refine (c54 4 _).val fun H3 s3=>?_
      conv=>whnf
      exact⟨⟨_,rfl⟩,_,rfl,IO_step hI hLi s3 rfl rfl (by decide)⟩
    ·
      cases ho
      conv=>whnf
      have h13:=get 13 _ rfl (by kernel_rfl)
      change V 13=_ at h13
      have h15:=get 15 _ rfl (by kernel_rfl)
      change V 15=_ at h15
      rw[h13]
      conv=>whnf
      rw[h15]
      conv=>whnf
      intro b hb hO
      conv=>whnf
      exact⟨⟨_,rfl⟩,_,rfl,IO_step hI hLi (sub_ins _ _ hb) rfl (pair_num (ins_same _ _ _)) (by decide)⟩
    ·
      cases ho
      have h:=get 16 _ rfl (by kernel_rfl)
      conv=>whnf
      refine (c143h _ (by decide) _ _ h).use fun u H3 s3 hq=>?_
      obtain⟨_,hq⟩:=hq
      conv=>whnf
      exact⟨⟨_,rfl⟩,_,rfl,IO_step hI hLi s3 rfl hq (by decide)⟩
    ·
      cases ho
      have h0:=hsee 0 (by kernel_rfl)
      have hs:=hsee 17 (by kernel_rfl)
      obtain⟨b,es,clk,hV0,hO,hF,_⟩:=hI.2.2.1 h0
      conv=>whnf
      unfold enterK
      refine .inl ?_
      refine⟨.i64,3,b,⟨es⟩,clk,rfl,hV0,hO,(hF 3 0).1 (keyVal_none (x:=(3,18,17)) (by decide) hLi),?_⟩
      conv=>whnf
      exact⟨⟨_,rfl⟩,_,rfl,IO_ins (x:=(3,18,17)) (by decide) hI hLi hs h0 hV0 hO rfl⟩
    ·
      cases ho
      conv=>whnf
      exact⟨⟨_,rfl⟩,_,rfl,IO_step hI hLi (Sub.refl _) rfl rfl (by decide)⟩
    ·
      cases ho
      conv=>whnf
      exact⟨⟨_,rfl⟩,_,rfl,IO_step hI hLi (Sub.refl _) rfl rfl (by decide)⟩
    ·
      cases ho
      conv=>whnf
      have h19:=get 19 _ rfl (by kernel_rfl)
      change V 19=_ at h19
      have h20:=get 20 _ rfl (by kernel_rfl)
      change V 20=_ at h20
      rw[h19]
      conv=>whnf
      rw[h20]
      conv=>whnf
      intro b hb hO
      conv=>whnf
      exact⟨⟨_,rfl⟩,_,rfl,IO_step hI hLi (sub_ins _ _ hb) rfl (pair_num (ins_same _ _ _)) (by decide)⟩
    ·
      cases ho
      conv=>whnf
      exact⟨⟨_,rfl⟩,_,rfl,IO_step hI hLi (Sub.refl _) rfl rfl (by decide)⟩
    ·
      cases ho
      conv=>whnf
      exact⟨⟨_,rfl⟩,_,rfl,IO_step hI hLi (Sub.refl _) rfl rfl (by decide)⟩
    ·
      cases ho
      conv=>whnf
      have h22:=get 22 _ rfl (by kernel_rfl)
      change V 22=_ at h22
      have h23:=get 23 _ rfl (by kernel_rfl)
      change V 23=_ at h23
      rw[h22]
      conv=>whnf
      rw[h23]
      conv=>whnf
      intro b hb hO
      conv=>whnf
      exact⟨⟨_,rfl⟩,_,rfl,IO_step hI hLi (sub_ins _ _ hb) rfl (pair_num (ins_same _ _ _)) (by decide)⟩
    ·
      cases ho
      have h21:=get 21 _ rfl (by kernel_rfl)
      change NumH _ (V 21) _ at h21
      obtain⟨base21,cap21,e21,_⟩:=id h21
      have h24:=get 24 _ rfl (by kernel_rfl)
      change NumH _ (V 24) _ at h24
      obtain⟨base24,cap24,e24,_⟩:=id h24
      conv=>whnf
      rw[e21]
      conv=>whnf
      rw[e24]
      conv=>whnf
      intro b hb hO
      conv=>whnf
      have f21:=h21
      rw[e21] at f21
      have f24:=h24
      rw[e24] at f24
      refine⟨⟨_,rfl⟩,_,rfl,IO_step hI hLi (sub_ins _ _ hb) rfl (mat2 (ins_same _ _ _) ?_ ?_) (by decide)⟩
      · exact f21.up (sub_ins _ _ hb)
      · exact f24.up (sub_ins _ _ hb)
    ·
      cases ho
      have h0:=hsee 0 (by kernel_rfl)
      have hs:=hsee 25 (by kernel_rfl)
      obtain⟨b,es,clk,hV0,hO,hF,_⟩:=hI.2.2.1 h0
      conv=>whnf
      unfold enterK
      refine .inl ?_
      refine⟨.i64,4,b,⟨es⟩,clk,rfl,hV0,hO,(hF 4 0).1 (keyVal_none (x:=(4,26,25)) (by decide) hLi),?_⟩
      conv=>whnf
      exact⟨⟨_,rfl⟩,_,rfl,IO_ins (x:=(4,26,25)) (by decide) hI hLi hs h0 hV0 hO rfl⟩
    ·
      cases ho
      conv=>whnf
      refine (c74 _).val fun H3 s3=>?_
      conv=>whnf
      exact⟨⟨_,rfl⟩,_,rfl,IO_step hI hLi s3 rfl rfl (by decide)⟩
    ·
      cases ho
      conv=>whnf
      exact⟨⟨_,rfl⟩,_,rfl,IO_step hI hLi (Sub.refl _) rfl rfl (by decide)⟩
    ·
      cases ho
      have h:=get 28 _ rfl (by kernel_rfl)
      change V 28=_ at h
      conv=>whnf
      rw[h]
      conv=>whnf
      refine (c54 2 _).val fun H3 s3=>?_
      conv=>whnf
      exact⟨⟨_,rfl⟩,_,rfl,IO_step hI hLi s3 rfl rfl (by decide)⟩
    ·
      cases ho
      conv=>whnf
      have h27:=get 27 _ rfl (by kernel_rfl)
      change V 27=_ at h27
      have h29:=get 29 _ rfl (by kernel_rfl)
      change V 29=_ at h29
      rw[h27]
      conv=>whnf
      rw[h29]
      conv=>whnf
      intro b hb hO
      conv=>whnf
      exact⟨⟨_,rfl⟩,_,rfl,IO_step hI hLi (sub_ins _ _ hb) rfl (pair_num (ins_same _ _ _)) (by decide)⟩
    ·
      cases ho
      have h:=get 30 _ rfl (by kernel_rfl)
      conv=>whnf
      refine (c143h _ (by decide) _ _ h).use fun u H3 s3 hq=>?_
      obtain⟨_,hq⟩:=hq
      conv=>whnf
      exact⟨⟨_,rfl⟩,_,rfl,IO_step hI hLi s3 rfl hq (by decide)⟩
    ·
      cases ho
      have h0:=hsee 0 (by kernel_rfl)
      have hs:=hsee 31 (by kernel_rfl)
      obtain⟨b,es,clk,hV0,hO,hF,_⟩:=hI.2.2.1 h0
      conv=>whnf
      unfold enterK
      refine .inl ?_
      refine⟨.i64,5,b,⟨es⟩,clk,rfl,hV0,hO,(hF 5 0).1 (keyVal_none (x:=(5,32,31)) (by decide) hLi),?_⟩
      conv=>whnf
      exact⟨⟨_,rfl⟩,_,rfl,IO_ins (x:=(5,32,31)) (by decide) hI hLi hs h0 hV0 hO rfl⟩
    ·
      cases ho
      conv=>whnf
      refine (c74 _).val fun H3 s3=>?_
      conv=>whnf
      exact⟨⟨_,rfl⟩,_,rfl,IO_step hI hLi s3 rfl rfl (by decide)⟩
    ·
      cases ho
      conv=>whnf
      exact⟨⟨_,rfl⟩,_,rfl,IO_step hI hLi (Sub.refl _) rfl rfl (by decide)⟩
    ·
      cases ho
      have h:=get 34 _ rfl (by kernel_rfl)
      change V 34=_ at h
      conv=>whnf
      rw[h]
      conv=>whnf
      refine (c54 6 _).val fun H3 s3=>?_
      conv=>whnf
      exact⟨⟨_,rfl⟩,_,rfl,IO_step hI hLi s3 rfl rfl (by decide)⟩
    ·
      cases ho
      conv=>whnf
      have h33:=get 33 _ rfl (by kernel_rfl)
      change V 33=_ at h33
      have h35:=get 35 _ rfl (by kernel_rfl)
      change V 35=_ at h35
      rw[h33]
      conv=>whnf
      rw[h35]
      conv=>whnf
      intro b hb hO
      conv=>whnf
      exact⟨⟨_,rfl⟩,_,rfl,IO_step hI hLi (sub_ins _ _ hb) rfl (pair_num (ins_same _ _ _)) (by decide)⟩
    ·
      cases ho
      have h:=get 36 _ rfl (by kernel_rfl)
      conv=>whnf
      refine (c143h _ (by decide) _ _ h).use fun u H3 s3 hq=>?_
      obtain⟨_,hq⟩:=hq
      conv=>whnf
      exact⟨⟨_,rfl⟩,_,rfl,IO_step hI hLi s3 rfl hq (by decide)⟩
    ·
      cases ho
      have h0:=hsee 0 (by kernel_rfl)
      have hs:=hsee 37 (by kernel_rfl)
      obtain⟨b,es,clk,hV0,hO,hF,_⟩:=hI.2.2.1 h0
      conv=>whnf
      unfold enterK
      refine .inl ?_
      refine⟨.i64,6,b,⟨es⟩,clk,rfl,hV0,hO,(hF 6 0).1 (keyVal_none (x:=(6,38,37)) (by decide) hLi),?_⟩
      conv=>whnf
      exact⟨⟨_,rfl⟩,_,rfl,IO_ins (x:=(6,38,37)) (by decide) hI hLi hs h0 hV0 hO rfl⟩
    ·
      cases ho
      conv=>whnf
      refine (c74 _).val fun H3 s3=>?_
      conv=>whnf
      exact⟨⟨_,rfl⟩,_,rfl,IO_step hI hLi s3 rfl rfl (by decide)⟩
    ·
      cases ho
      conv=>whnf
      exact⟨⟨_,rfl⟩,_,rfl,IO_step hI hLi (Sub.refl _) rfl rfl (by decide)⟩
    ·
      cases ho
      have h:=get 40 _ rfl (by kernel_rfl)
      change V 40=_ at h
      conv=>whnf
      rw[h]
      conv=>whnf
      refine (c54 1 _).val fun H3 s3=>?_
      conv=>whnf
      exact⟨⟨_,rfl⟩,_,rfl,IO_step hI hLi s3 rfl rfl (by decide)⟩
    ·
      cases ho
      conv=>whnf
      have h39:=get 39 _ rfl (by kernel_rfl)
      change V 39=_ at h39
      have h41:=get 41 _ rfl (by kernel_rfl)
      change V 41=_ at h41
      rw[h39]
      conv=>whnf
      rw[h41]
      conv=>whnf
      intro b hb hO
      conv=>whnf
      exact⟨⟨_,rfl⟩,_,rfl,IO_step hI hLi (sub_ins _ _ hb) rfl (pair_num (ins_same _ _ _)) (by decide)⟩
    ·
      cases ho
      have h:=get 42 _ rfl (by kernel_rfl)
      conv=>whnf
      refine (c143h _ (by decide) _ _ h).use fun u H3 s3 hq=>?_
      obtain⟨_,hq⟩:=hq
      conv=>whnf
      exact⟨⟨_,rfl⟩,_,rfl,IO_step hI hLi s3 rfl hq (by decide)⟩
    ·
      cases ho
      have h0:=hsee 0 (by kernel_rfl)
      have hs:=hsee 43 (by kernel_rfl)
      obtain⟨b,es,clk,hV0,hO,hF,_⟩:=hI.2.2.1 h0
      conv=>whnf
      unfold enterK
      refine .inl ?_
      refine⟨.i64,7,b,⟨es⟩,clk,rfl,hV0,hO,(hF 7 0).1 (keyVal_none (x:=(7,44,43)) (by decide) hLi),?_⟩
      conv=>whnf
      exact⟨⟨_,rfl⟩,_,rfl,IO_ins (x:=(7,44,43)) (by decide) hI hLi hs h0 hV0 hO rfl⟩
    ·
      cases ho
      conv=>whnf
      refine (c74 _).val fun H3 s3=>?_
      conv=>whnf
      exact⟨⟨_,rfl⟩,_,rfl,IO_step hI hLi s3 rfl rfl (by decide)⟩
    ·
      cases ho
      conv=>whnf
      exact⟨⟨_,rfl⟩,_,rfl,IO_step hI hLi (Sub.refl _) rfl rfl (by decide)⟩
    ·
      cases ho
      have h:=get 46 _ rfl (by kernel_rfl)
      change V 46=_ at h
      conv=>whnf
      rw[h]
      conv=>whnf
      refine (c54 7 _).val fun H3 s3=>?_
      conv=>whnf
      exact⟨⟨_,rfl⟩,_,rfl,IO_step hI hLi s3 rfl rfl (by decide)⟩
    ·
      cases ho
      conv=>whnf
      have h45:=get 45 _ rfl (by kernel_rfl)
      change V 45=_ at h45
      have h47:=get 47 _ rfl (by kernel_rfl)
      change V 47=_ at h47
      rw[h45]
      conv=>whnf
      rw[h47]
      conv=>whnf
      intro b hb hO
      conv=>whnf
      exact⟨⟨_,rfl⟩,_,rfl,IO_step hI hLi (sub_ins _ _ hb) rfl (pair_num (ins_same _ _ _)) (by decide)⟩
    ·
      cases ho
      have h:=get 48 _ rfl (by kernel_rfl)
      conv=>whnf
      refine (c143h _ (by decide) _ _ h).use fun u H3 s3 hq=>?_
      obtain⟨_,hq⟩:=hq
      conv=>whnf
      exact⟨⟨_,rfl⟩,_,rfl,IO_step hI hLi s3 rfl hq (by decide)⟩
    ·
      cases ho
      have h0:=hsee 0 (by kernel_rfl)
      have hs:=hsee 49 (by kernel_rfl)
      obtain⟨b,es,clk,hV0,hO,hF,_⟩:=hI.2.2.1 h0
      conv=>whnf
      unfold enterK
      refine .inl ?_
      refine⟨.i64,8,b,⟨es⟩,clk,rfl,hV0,hO,(hF 8 0).1 (keyVal_none (x:=(8,50,49)) (by decide) hLi),?_⟩
      conv=>whnf
      exact⟨⟨_,rfl⟩,_,rfl,IO_ins (x:=(8,50,49)) (by decide) hI hLi hs h0 hV0 hO rfl⟩
    ·
      cases ho
      conv=>whnf
      refine (c133h tCX 4 (by decide) (by decide) _ (.func 195) #[] #[] (fun k hk=>⟨195,[],[],rfl,fun H4 _=>c144 k hk H4⟩)).use fun u H3 s3 hq=>?_
      obtain⟨_,hq⟩:=hq
      conv=>whnf
      exact⟨⟨_,rfl⟩,_,rfl,IO_step hI hLi s3 rfl hq (by decide)⟩
    ·
      cases ho
      have h0:=hsee 0 (by kernel_rfl)
      have hs:=hsee 51 (by kernel_rfl)
      obtain⟨b,es,clk,hV0,hO,hF,_⟩:=hI.2.2.1 h0
      conv=>whnf
      unfold enterK
      refine .inl ?_
      refine⟨.i64,9,b,⟨es⟩,clk,rfl,hV0,hO,(hF 9 0).1 (keyVal_none (x:=(9,52,51)) (by decide) hLi),?_⟩
      conv=>whnf
      exact⟨⟨_,rfl⟩,_,rfl,IO_ins (x:=(9,52,51)) (by decide) hI hLi hs h0 hV0 hO rfl⟩
    ·
      cases ho
      conv=>whnf
      refine (c74 _).val fun H3 s3=>?_
      conv=>whnf
      exact⟨⟨_,rfl⟩,_,rfl,IO_step hI hLi s3 rfl rfl (by decide)⟩
    ·
      cases ho
      conv=>whnf
      refine (c74 _).val fun H3 s3=>?_
      conv=>whnf
      exact⟨⟨_,rfl⟩,_,rfl,IO_step hI hLi s3 rfl rfl (by decide)⟩
    ·
      cases ho
      conv=>whnf
      refine (c74 _).val fun H3 s3=>?_
      conv=>whnf
      exact⟨⟨_,rfl⟩,_,rfl,IO_step hI hLi s3 rfl rfl (by decide)⟩
    ·
      cases ho
      conv=>whnf
      exact⟨⟨_,rfl⟩,_,rfl,IO_step hI hLi (Sub.refl _) rfl rfl (by decide)⟩
    ·
      cases ho
      have h:=get 56 _ rfl (by kernel_rfl)
      change V 56=_ at h
      conv=>whnf
      rw[h]
      conv=>whnf
      refine (c54 4 _).val fun H3 s3=>?_
      conv=>whnf
      exact⟨⟨_,rfl⟩,_,rfl,IO_step hI hLi s3 rfl rfl (by decide)⟩
    ·
      cases ho
      conv=>whnf
      have h53:=get 53 _ rfl (by kernel_rfl)
      change V 53=_ at h53
      have h54:=get 54 _ rfl (by kernel_rfl)
      change V 54=_ at h54
      have h55:=get 55 _ rfl (by kernel_rfl)
      change V 55=_ at h55
      have h57:=get 57 _ rfl (by kernel_rfl)
      change V 57=_ at h57
      rw[h53]
      conv=>whnf
      rw[h54]
      conv=>whnf
      rw[h55]
      conv=>whnf
      rw[h57]
      conv=>whnf
      intro b hb hO
      conv=>whnf
      exact⟨⟨_,rfl⟩,_,rfl,IO_step hI hLi (sub_ins _ _ hb) rfl (quad_num (ins_same _ _ _)) (by decide)⟩
    ·
      cases ho
      have h:=get 58 _ rfl (by kernel_rfl)
      conv=>whnf
      refine (c143h _ (by decide) _ _ h).use fun u H3 s3 hq=>?_
      obtain⟨_,hq⟩:=hq
      conv=>whnf
      exact⟨⟨_,rfl⟩,_,rfl,IO_step hI hLi s3 rfl hq (by decide)⟩
    ·
      cases ho
      have h0:=hsee 0 (by kernel_rfl)
      have hs:=hsee 59 (by kernel_rfl)
      obtain⟨b,es,clk,hV0,hO,hF,_⟩:=hI.2.2.1 h0
      conv=>whnf
      unfold enterK
      refine .inl ?_
      refine⟨.i64,10,b,⟨es⟩,clk,rfl,hV0,hO,(hF 10 0).1 (keyVal_none (x:=(10,60,59)) (by decide) hLi),?_⟩
      conv=>whnf
      exact⟨⟨_,rfl⟩,_,rfl,IO_ins (x:=(10,60,59)) (by decide) hI hLi hs h0 hV0 hO rfl⟩
    ·
      cases ho
      conv=>whnf
      refine (c133h tSwap 4 (by decide) (by decide) _ (.func 196) #[] #[] (fun k hk=>⟨196,[],[],rfl,fun H4 _=>c145 k hk H4⟩)).use fun u H3 s3 hq=>?_
      obtain⟨_,hq⟩:=hq
      conv=>whnf
      exact⟨⟨_,rfl⟩,_,rfl,IO_step hI hLi s3 rfl hq (by decide)⟩
    ·
      cases ho
      have h0:=hsee 0 (by kernel_rfl)
      have hs:=hsee 61 (by kernel_rfl)
      obtain⟨b,es,clk,hV0,hO,hF,_⟩:=hI.2.2.1 h0
      conv=>whnf
      unfold enterK
      refine .inl ?_
      refine⟨.i64,11,b,⟨es⟩,clk,rfl,hV0,hO,(hF 11 0).1 (keyVal_none (x:=(11,62,61)) (by decide) hLi),?_⟩
      conv=>whnf
      exact⟨⟨_,rfl⟩,_,rfl,IO_ins (x:=(11,62,61)) (by decide) hI hLi hs h0 hV0 hO rfl⟩
    ·
      cases ho
      conv=>whnf
      refine (c133h tCCX 8 (by decide) (by decide) _ (.func 197) #[] #[] (fun k hk=>⟨197,[],[],rfl,fun H4 _=>c146 k hk H4⟩)).use fun u H3 s3 hq=>?_
      obtain⟨_,hq⟩:=hq
      conv=>whnf
      exact⟨⟨_,rfl⟩,_,rfl,IO_step hI hLi s3 rfl hq (by decide)⟩
    ·
      cases ho
      have h0:=hsee 0 (by kernel_rfl)
      have hs:=hsee 63 (by kernel_rfl)
      obtain⟨b,es,clk,hV0,hO,hF,_⟩:=hI.2.2.1 h0
      conv=>whnf
      unfold enterK
      refine .inl ?_
      refine⟨.i64,12,b,⟨es⟩,clk,rfl,hV0,hO,(hF 12 0).1 (keyVal_none (x:=(12,64,63)) (by decide) hLi),?_⟩
      conv=>whnf
      exact⟨⟨_,rfl⟩,_,rfl,IO_ins (x:=(12,64,63)) (by decide) hI hLi hs h0 hV0 hO rfl⟩
    ·
      cases ho
      have h0:=hsee 0 (by kernel_rfl)
      conv=>whnf
      exact⟨⟨_,rfl⟩,_,rfl,IO_same hI hLi h0 (.inl rfl) fun b h=>h⟩
    ·
      cases ho
      have h65:=hsee 65 (by kernel_rfl)
      have h0:L 0=true:=by
        cases e:L 0 with
        | true=>rfl
        | false=>have:=(hI.2.2.2 e).2.1;rw[h65] at this;cases this
      obtain⟨b,es,clk,hV0,_,_,h5,_⟩:=hI.2.2.1 h0
      conv=>whnf
      exact⟨⟨_,rfl⟩,_,rfl,IO_same hI hLi h0 (.inr rfl) fun b' h=>(h5 h65).trans (hV0.symm.trans h)⟩
  · intro L V H' O' hI hL
    have hl:∀ j,j < 67→L j=true:=fun j hj=>hL j hj
    obtain⟨b,es,clk,hV0,hO,hF,_,h66⟩:=hI.2.2.1 (hl 0 (by decide))
    conv=>whnf
    refine⟨b,es,clk,h66 (hl 66 (by decide)),hO,fun k k1 k2=>?_,fun n hn=>(hF n 0).1 ?_⟩
    · obtain rfl | rfl | rfl | rfl | rfl | rfl | rfl | rfl | rfl | rfl | rfl | rfl:k=1∨k=2∨k=3∨k=4∨k=5∨k=6∨k=7∨k=8∨k=9∨k=10∨k=11∨k=12:=by omega
      · obtain⟨j,hj⟩:=(hF 1 0).2 _ (keyVal_some (x:=(1,2,1)) (by decide) (hl 2 (by decide)))
        exact⟨j,_,hj,hI.1 1 _ rfl (hl 1 (by decide))⟩
      · obtain⟨j,hj⟩:=(hF 2 0).2 _ (keyVal_some (x:=(2,12,11)) (by decide) (hl 12 (by decide)))
        exact⟨j,_,hj,hI.1 11 _ rfl (hl 11 (by decide))⟩
      · obtain⟨j,hj⟩:=(hF 3 0).2 _ (keyVal_some (x:=(3,18,17)) (by decide) (hl 18 (by decide)))
        exact⟨j,_,hj,hI.1 17 _ rfl (hl 17 (by decide))⟩
      · obtain⟨j,hj⟩:=(hF 4 0).2 _ (keyVal_some (x:=(4,26,25)) (by decide) (hl 26 (by decide)))
        exact⟨j,_,hj,hI.1 25 _ rfl (hl 25 (by decide))⟩
      · obtain⟨j,hj⟩:=(hF 5 0).2 _ (keyVal_some (x:=(5,32,31)) (by decide) (hl 32 (by decide)))
        exact⟨j,_,hj,hI.1 31 _ rfl (hl 31 (by decide))⟩
      · obtain⟨j,hj⟩:=(hF 6 0).2 _ (keyVal_some (x:=(6,38,37)) (by decide) (hl 38 (by decide)))
        exact⟨j,_,hj,hI.1 37 _ rfl (hl 37 (by decide))⟩
      · obtain⟨j,hj⟩:=(hF 7 0).2 _ (keyVal_some (x:=(7,44,43)) (by decide) (hl 44 (by decide)))
        exact⟨j,_,hj,hI.1 43 _ rfl (hl 43 (by decide))⟩
      · obtain⟨j,hj⟩:=(hF 8 0).2 _ (keyVal_some (x:=(8,50,49)) (by decide) (hl 50 (by decide)))
        exact⟨j,_,hj,hI.1 49 _ rfl (hl 49 (by decide))⟩
      · obtain⟨j,hj⟩:=(hF 9 0).2 _ (keyVal_some (x:=(9,52,51)) (by decide) (hl 52 (by decide)))
        exact⟨j,_,hj,hI.1 51 _ rfl (hl 51 (by decide))⟩
      · obtain⟨j,hj⟩:=(hF 10 0).2 _ (keyVal_some (x:=(10,60,59)) (by decide) (hl 60 (by decide)))
        exact⟨j,_,hj,hI.1 59 _ rfl (hl 59 (by decide))⟩
      · obtain⟨j,hj⟩:=(hF 11 0).2 _ (keyVal_some (x:=(11,62,61)) (by decide) (hl 62 (by decide)))
        exact⟨j,_,hj,hI.1 61 _ rfl (hl 61 (by decide))⟩
      · obtain⟨j,hj⟩:=(hF 12 0).2 _ (keyVal_some (x:=(12,64,63)) (by decide) (hl 64 (by decide)))
        exact⟨j,_,hj,hI.1 63 _ rfl (hl 63 (by decide))⟩
    · have h12:∀ x∈tabO,1≤x.1∧x.1≤12:=by decide
      unfold keyVal
      rw[show (tabO.find? fun y=>((y.1:Int) == n) && L y.2.1)=none from List.find?_eq_none.2 fun y hy h=>?_]
      · rfl
      · simp only[Bool.and_eq_true,beq_iff_eq] at h
        have:=h12 y hy
        omega
end Go.Proofs.YtgbhgfdgifkdhaaGreat

namespace Go.Proofs.YtgbhgfdgifkdhaaGreat
open Go.Proofs.YtgbhgfdgifkdhaaGreat.X Go.Proofs.YtgbhgfdgifkdhaaGreat.X.PH
set_option maxRecDepth 100000
theorem c21 (k : Nat) (h1:1≤k) (h2:k≤12) (H:PH):Cl Tryz.prog 43 [.int .i64 k] H emp fun r H' _=>∃ u,r=.tuple #[u,.int .i64 0]∧MatH H' u (opM k):=by
  refine Cl_of (pol:=polL) Γok Tryz.func43 (by kernel_rfl) rfl ?_
  conv=>whnf
  refine (c75 _).use fun r H1 s1 hr=>?_
  obtain⟨_,b,es,clk,rfl,hb,hk,_⟩:=hr
  obtain⟨j,u,hj,hu⟩:=hk k h1 h2
  conv=>whnf
  unfold lookK
  refine⟨.i64,k,rfl,.inr ⟨b,⟨es⟩,clk,_,rfl,.inl hb,hj,?_⟩⟩
  intro z
  conv=>whnf
  exact⟨u,rfl,hu⟩
def wideM (m : List (List (P4 × Int))):Nat:=(m.headD []).length
theorem wideM_get {m : List (List (P4 × Int))} (h:0 < m.length):wideM m=(m[0]'h).length:=by
  unfold wideM
  cases m with
  | nil=>simp at h
  | cons r m=>rfl
theorem MatH.sl {H : PH} {v:Value} {m:List (List (P4 × Int))} (h:MatH H v m):∃ base cap,v=.slice base m.length cap:=by
  obtain⟨_,_,⟨b,c,h,_⟩,_⟩:=h
  exact⟨b,c,h⟩
theorem c111 (m : List (List (P4 × Int))) (hm:0 < m.length) (H:PH) (v:Value) (hv:MatH H v m):Cl Tryz.prog 88 [v] H emp fun r _ _=>r=.int .i64 (wideM m):=by
  obtain⟨base,cap,rfl⟩:=hv.sl
  obtain⟨b,off,bb,cc,rfl,hrd,hn⟩:=hv.rd (O:=emp) hm
  refine Cl_of (pol:=polL) Γok Tryz.func88 (by kernel_rfl) rfl ?_
  conv=>whnf
  refine dec_intro (by omega) ?_
  conv=>whnf
  refine⟨_,hrd,?_⟩
  conv=>whnf
  rw[wideM_get hm]
def MatsH (H : PH) (v:Value) (ms:List (List (List (P4 × Int)))):Prop:=
  ∃ vs:List Value,vs.length=ms.length∧SlH H v ms.length vs∧∀ (i:Nat) m u,ms[i]?=some m→vs[i]?=some u→MatH H u m
theorem MatsH.up {H H' : PH} {v:Value} {ms:List (List (List (P4 × Int)))} (h:MatsH H v ms) (hs:Sub H H'):MatsH H' v ms:=by
  obtain⟨vs,h1,h2,h3⟩:=h
  exact⟨vs,h1,h2.up hs,fun i m u hm hu=>(h3 i m u hm hu).up hs⟩
theorem MatsH.rd {H : PH} {base:Option Addr} {n cap:Nat} {ms:List (List (List (P4 × Int)))} (h:MatsH H (.slice base n cap) ms) {i:Nat} (hi:i < ms.length) :
    ∃ b off u,base=some ⟨b,off,none⟩∧(∀ O,Rd H O ⟨b,off+i*1,none⟩ 1 [u])∧MatH H u ms[i]:=by
  obtain⟨vs,h1,h2,h3⟩:=h
  obtain⟨_,_,hv,_⟩:=id h2
  cases hv
  obtain⟨b,off,hb,hrd⟩:=SlH.one (O:=emp) h2 h1 hi
  exact⟨b,off,_,hb,fun O=>hrd.anyO,h3 i ms[i] _ (List.getElem?_eq_getElem hi) (List.getElem?_eq_getElem (by omega))⟩
def errsM (ms : List (List (List (P4 × Int)))):Int:=firstErr (ms.map checkMF)
theorem c101 (ms : List (List (List (P4 × Int)))) (hlen:ms.length < 1000000) (hrow:∀ m∈ms,m.length < 1000000) (H:PH) (v:Value) (hv:MatsH H v ms):Cl Tryz.prog 87 [v] H emp fun r _ _=>r=.int .i64 (errsM ms):=by
  obtain⟨base,cap,rfl⟩:∃ base cap,v=.slice base ms.length cap:=by
    obtain⟨_,_,⟨b,c,h,_⟩,_⟩:=hv
    exact⟨b,c,h⟩
  refine Cl_of (pol:=polL) Γok Tryz.func87 (by kernel_rfl) rfl ?_
  conv=>whnf
  refine W_loop (pol:=polL) Γok (Nat × PH) (fun i=>i.1≤ms.length∧Sub H i.2∧errsM ms=errsM (ms.drop i.1)) (fun i=>ms.length - i.1) (fun i=>[(8,.v (.int .i64 i.1))]) (fun _=>[]) (fun i=>i.2) (fun _=>emp) ⟨(0,H),⟨by simp,Sub.refl _,by simp⟩,rfl,rfl,?_⟩ ?_
  · conv=>whnf
    repeat (refine⟨rfl,?_⟩;conv=>whnf)
    exact trivial
  · rintro ⟨i,H'⟩ ⟨h1,h2,h3⟩
    dsimp only at h1 h2 h3
    conv=>whnf
    refine if_intro (fun h=>?_) (fun h=>?_)
    · have hi:i < ms.length:=by simpa using h
      obtain⟨b,off,u,rfl,hrd,hu⟩:=(hv.up h2).rd hi
      conv=>whnf
      refine dec_intro (by omega) ?_
      conv=>whnf
      refine⟨_,hrd _,?_⟩
      conv=>whnf
      refine (c29 ms[i] _ _ (hrow _ (List.getElem_mem hi)) hu).val fun H2 hs=>?_
      conv=>whnf
      have hst:=firstErr_step checkMF hi
      refine if_intro (fun he=>?_) (fun he=>?_)
      · conv=>whnf
        rw[h3]
        unfold errsM
        rw[hst,if_neg (by simpa using he)]
      · conv=>whnf
        refine⟨(i+1,H2),⟨hi,h2.trans hs,?_⟩,by dsimp only;omega,?_⟩
        · rw[h3]
          unfold errsM
          rw[hst,if_pos (by simpa using he)]
        · conv=>whnf
          refine⟨rfl,rfl,?_⟩
          conv=>whnf
          repeat (refine⟨rfl,?_⟩;conv=>whnf)
          refine⟨by show En.v (.int .i64 (IntKind.i64.wrap (i+1)))=_;rw[wrap_id (by omega) (by omega)];rfl,?_⟩
          conv=>whnf
          repeat (refine⟨rfl,?_⟩;conv=>whnf)
          exact trivial
    · have hi:ms.length≤i:=by simpa using h
      conv=>whnf
      rw[h3,List.drop_of_length_le hi]
      rfl
def alikeF (m n : List (List (P4 × Int))):Bool:=((m.length:Int) == (n.length:Int)) && ((wideM m:Int) == (wideM n:Int))
theorem c102 (m n : List (List (P4 × Int))) (hm:0 < m.length) (hn:0 < n.length) (H:PH) (u v:Value) (hu:MatH H u m) (hv:MatH H v n):Cl Tryz.prog 91 [u,v] H emp fun r _ _=>r=.bool (alikeF m n):=by
  obtain⟨base,cap,rfl⟩:=hu.sl
  obtain⟨base',cap',rfl⟩:=hv.sl
  refine Cl_of (pol:=polL) Γok Tryz.func91 (by kernel_rfl) rfl ?_
  conv=>whnf
  refine (c111 m hm _ _ hu).val fun H1 s1=>?_
  conv=>whnf
  refine (c111 n hn _ _ (hv.up s1)).val fun H2 s2=>?_
  conv=>whnf
  unfold alikeF
  show Value.bool (((m.length:Int) == (n.length:Int)) && (((wideM m:Int) == (wideM n:Int)) && true))=_
  rw[Bool.and_true]
end Go.Proofs.YtgbhgfdgifkdhaaGreat

namespace Go.Proofs.YtgbhgfdgifkdhaaGreat
open Go.Proofs.YtgbhgfdgifkdhaaGreat.X Go.Proofs.YtgbhgfdgifkdhaaGreat.X.PH
set_option maxRecDepth 100000
def dotStep (o z : P4 × Int) (first:Bool) (w:P4 × Int):(P4 × Int) × Int:=
  let m:=MulF z w
  let a:=if m.2=0 then (if first then m else AddF o m.1) else m
  if a.2=0 then (a.1,0) else ((P4.zero,0),a.2)
def dotF (x y : Nat→P4 × Int):Nat→(P4 × Int) × Int
  | 0=>((P4.zero,0),0)
  | i+1=>if (dotF x y i).2=0 then dotStep (dotF x y i).1 (x i) (decide (i=0)) (y i) else dotF x y i
theorem dotF_stay {x y : Nat→P4 × Int} {i:Nat} (h:(dotF x y i).2 ≠ 0):∀ n,i≤n→dotF x y n=dotF x y i:=by
  intro n
  induction n with
  | zero=>intro hn;rw[Nat.le_zero.1 hn]
  | succ n ih=>
    intro hn
    rcases Nat.lt_or_ge n i with h' | h'
    · rw[show i=n+1 by omega]
    · have e:=ih h'
      show (if (dotF x y n).2=0 then _ else dotF x y n)=_
      rw[e,if_neg h]
theorem c118 (x y : Nat→P4 × Int) (n:Nat) (hn:n < 1000000) (H:PH) (fn:Fn) (first cp:Array Value) (fn':Fn) (first' cp':Array Value)
    (hx:∀ i,i < n→Does Tryz.prog H (.func fn first cp) [.int .i64 i] fun r _=>r=nv (x i)) (hy:∀ i,i < n→Does Tryz.prog H (.func fn' first' cp') [.int .i64 i] fun r _=>r=nv (y i)) :
    Cl Tryz.prog 140 [.int .i64 n,.func fn first cp,.func fn' first' cp'] H emp fun r _ _=>r=ne (dotF x y n):=by
  refine Cl_of (pol:=polL) Γok Tryz.func140 (by kernel_rfl) rfl ?_
  conv=>whnf
  intro b6
  conv=>whnf
  intro b8
  conv=>whnf
  refine W_loop (pol:=polL) Γok (Nat × PH × (P4 × Int)) (fun i=>i.1≤n∧Sub H i.2.1∧dotF x y i.1=(i.2.2,0)) (fun i=>n - i.1) (fun i=>[(14,.v (.int .i64 i.1))]) (fun i=>[(1,cellsOf i.2.2)]) (fun i=>i.2.1) (fun _=>emp) ⟨(0,H,(P4.zero,0)),⟨by simp,Sub.refl _,rfl⟩,rfl,rfl,?_⟩ ?_
  · conv=>whnf
    repeat (refine⟨rfl,?_⟩;conv=>whnf)
    exact trivial
  · rintro ⟨i,H',o⟩ ⟨h1,h2,h3⟩
    dsimp only at h1 h2 h3
    conv=>whnf
    refine if_intro (fun hg=>?_) (fun hg=>?_)
    · have hi:i < n:=by simpa using hg
      conv=>whnf
      refine ((hx i hi).up h2).use fun r H2 s2 hr=>?_
      subst hr
      conv=>whnf
      refine (((hy i hi).up h2).up s2).use fun r H3 s3 hr=>?_
      subst hr
      conv=>whnf
      refine (c104 (x i) (y i) _).val fun H4 s4=>?_
      conv=>whnf
      intro b10
      conv=>whnf
      have hs:dotF x y (i+1)=dotStep o (x i) (decide (i=0)) (y i):=by
        show (if (dotF x y i).2=0 then _ else _)=_
        rw[h3];rfl
      unfold dotStep at hs
      dsimp only at hs
      have fin:∀ (a:P4 × Int) (H5:PH),Sub H4 H5→dotF x y (i+1)=(a,0)→i+1≤n∧Sub H H5∧dotF x y (i+1)=(a,0):=fun a H5 s5 h=>⟨hi,h2.trans (s2.trans (s3.trans (s4.trans s5))),h⟩
      have bad:∀ e:Int,e ≠ 0→dotF x y (i+1)=((P4.zero,0),e)→ne ((P4.zero,0),e)=ne (dotF x y n):=fun e he h=>by
        rw[dotF_stay (i:=i+1) (by rw[h];exact he) n hi,h]
      refine if_intro (fun he=>?_) (fun he=>?_)
      · have he0:(MulF (x i) (y i)).2=0:=by simpa using he
        rw[if_pos he0] at hs
        conv=>whnf
        refine if_intro (fun hp=>?_) (fun hp=>?_)
        · have hp:0 < i:=by simpa using hp
          rw[show decide (i=0)=false by simp;omega] at hs
          conv=>whnf
          refine (c110 o (MulF (x i) (y i)).1 _).val fun H5 s5=>?_
          conv=>whnf
          simp only[Bool.false_eq_true,if_false] at hs
          refine if_intro (fun ha=>?_) (fun ha=>?_)
          · have ha:(AddF o (MulF (x i) (y i)).1).2 ≠ 0:=by simpa using ha
            conv=>whnf
            rw[if_neg ha] at hs
            exact bad _ ha hs
          · have ha:(AddF o (MulF (x i) (y i)).1).2=0:=by simpa using ha
            rw[if_pos ha] at hs
            conv=>whnf
            refine⟨(i+1,H5,(AddF o (MulF (x i) (y i)).1).1),fin _ _ s5 hs,by dsimp only;omega,?_⟩
            conv=>whnf
            refine⟨rfl,rfl,?_⟩
            conv=>whnf
            repeat (refine⟨rfl,?_⟩;conv=>whnf)
            refine⟨by show En.v (.int .i64 (IntKind.i64.wrap (i+1)))=_;rw[wrap_id (by omega) (by omega)];rfl,?_⟩
            conv=>whnf
            repeat (refine⟨rfl,?_⟩;conv=>whnf)
            exact trivial
        · have hp:i=0:=by simp at hp;omega
          rw[show decide (i=0)=true by simp;omega] at hs
          simp only[if_true] at hs
          rw[if_pos he0] at hs
          conv=>whnf
          rw[he0]
          conv=>whnf
          refine⟨(i+1,H4,(MulF (x i) (y i)).1),fin _ _ (Sub.refl _) hs,by dsimp only;omega,?_⟩
          conv=>whnf
          refine⟨rfl,rfl,?_⟩
          conv=>whnf
          repeat (refine⟨rfl,?_⟩;conv=>whnf)
          refine⟨by show En.v (.int .i64 (IntKind.i64.wrap (i+1)))=_;rw[wrap_id (by omega) (by omega)];rfl,?_⟩
          conv=>whnf
          repeat (refine⟨rfl,?_⟩;conv=>whnf)
          exact trivial
      · have he0:(MulF (x i) (y i)).2 ≠ 0:=by simpa using he
        rw[if_neg he0] at hs
        rw[if_neg he0] at hs
        conv=>whnf
        refine if_intro (fun ha=>?_) (fun ha=>?_)
        · conv=>whnf
          exact bad _ he0 hs
        · exact absurd (by simpa using ha) he0
    · have hi:i=n:=by simp at hg;omega
      conv=>whnf
      subst hi
      rw[h3]
      rfl
end Go.Proofs.YtgbhgfdgifkdhaaGreat

namespace Go.Proofs.YtgbhgfdgifkdhaaGreat
open Go.Proofs.YtgbhgfdgifkdhaaGreat.X Go.Proofs.YtgbhgfdgifkdhaaGreat.X.PH
set_option maxRecDepth 100000
def MadeH (F : Nat→Nat→(P4 × Int) × Int) (h w:Nat) (r:Value) (H:PH):Prop:=
  (firstErr (errsE F h w) ≠ 0∧r=.tuple #[.slice none 0 0,.int .i64 (firstErr (errsE F h w))]) ∨
  (firstErr (errsE F h w)=0∧∃ u,r=.tuple #[u,.int .i64 0]∧MatH H u (fills F h w (h*w)))
theorem MadeE.pub {F : Nat→Nat→(P4 × Int) × Int} {h w:Nat} {r:Value} {H M:PH} (hd:Dis H M) (h':MadeE F h w r M):MadeH F h w r (un H M):=by
  rcases h' with h' | ⟨h1,u,h2,h3⟩
  · exact .inl h'
  · exact .inr ⟨h1,u,h2,h3.share hd⟩
theorem MatH.row' {H : PH} {base:Option Addr} {n cap:Nat} {m:List (List (P4 × Int))} (h:MatH H (.slice base n cap) m) {i k:Nat} (hi:i < m.length) (hk:k < m[i].length) :
    ∃ b off b' off' cap',base=some ⟨b,off,none⟩∧(∀ O,Rd H O ⟨b,off+i*1,none⟩ 1 [.slice (some ⟨b',off',none⟩) m[i].length cap'])∧∀ O,Rd H O ⟨b',off'+k*5,none⟩ 5 (cellsOf m[i][k]):=by
  obtain⟨b,off,bb,cc,hb,hrd,hn⟩:=h.rd (O:=emp) hi
  obtain⟨_,b',off',rfl,hrd'⟩:=hn.rd (O:=emp) hk
  exact⟨b,off,b',off',cc,hb,fun O=>hrd.anyO,fun O=>hrd'.anyO⟩
theorem c167 (m : List (List (P4 × Int))) (i a b:Nat) (ha:a < m.length) (hi:i < m[a].length) (H:PH) (v:Value) (bm bp:Nat) (t t':TypeId) (hv:MatH H v m) (hb:H bm=some (.cells ⟨[v]⟩ t (0,0))) (hp:H bp=some (.cells ⟨[.int .i64 a,.int .i64 b]⟩ t' (0,0))) :
    Cl Tryz.prog 177 [.int .i64 i,.pointer (some ⟨bm,0,none⟩),.pointer (some ⟨bp,0,none⟩)] H emp fun r _ _=>r=nv m[a][i]:=by
  obtain⟨base,cap,rfl⟩:=hv.sl
  obtain⟨b0,off,b',off',cap',rfl,h1,h2⟩:=hv.row' ha hi
  refine Cl_of (pol:=polL) Γok Tryz.func177 (by kernel_rfl) rfl ?_
  conv=>whnf
  repeat (intro _;conv=>whnf)
  refine⟨_,Rd.whole hb,?_⟩
  conv=>whnf
  refine⟨[.int .i64 a],⟨rfl,rfl,_,_,_,.inl hp,rfl⟩,?_⟩
  conv=>whnf
  refine dec_intro (by omega) ?_
  conv=>whnf
  refine⟨_,h1 _,?_⟩
  conv=>whnf
  refine dec_intro (by omega) ?_
  conv=>whnf
  refine⟨_,h2 _,?_⟩
  conv=>whnf
  rfl
theorem c168 (m : List (List (P4 × Int))) (i a b:Nat) (hi:i < m.length) (hb':b < m[i].length) (H:PH) (v:Value) (bm bp:Nat) (t t':TypeId) (hv:MatH H v m) (hb:H bm=some (.cells ⟨[v]⟩ t (0,0))) (hp:H bp=some (.cells ⟨[.int .i64 a,.int .i64 b]⟩ t' (0,0))) :
    Cl Tryz.prog 178 [.int .i64 i,.pointer (some ⟨bm,0,none⟩),.pointer (some ⟨bp,0,none⟩)] H emp fun r _ _=>r=nv m[i][b]:=by
  obtain⟨base,cap,rfl⟩:=hv.sl
  obtain⟨b0,off,b',off',cap',rfl,h1,h2⟩:=hv.row' hi hb'
  refine Cl_of (pol:=polL) Γok Tryz.func178 (by kernel_rfl) rfl ?_
  conv=>whnf
  repeat (intro _;conv=>whnf)
  refine W_draw (pol:=polL) Γok mixes [(0,.pendO),(1,.pendO),(2,.pendO),(3,.pendO),(4,.pendO),(5,.pendO),(6,.pendO),(7,.pendO),(8,.lock)] 13 (by kernel_rfl) rfl ?_
  conv=>whnf
  refine⟨_,Rd.whole hb,?_⟩
  conv=>whnf
  refine dec_intro (by omega) ?_
  conv=>whnf
  refine⟨_,h1 _,?_⟩
  conv=>whnf
  refine⟨[.int .i64 b],⟨rfl,rfl,_,_,_,.inl hp,rfl⟩,?_⟩
  conv=>whnf
  refine dec_intro (by omega) ?_
  conv=>whnf
  refine⟨_,h2 _,?_⟩
  conv=>whnf
  rfl
def mulAt (m n : List (List (P4 × Int))) (i k:Nat):(P4 × Int) × Int:=dotF (fun t=>entry m i t) (fun t=>entry n t k) n.length
theorem c166 (m n : List (List (P4 × Int))) (i k:Nat) (hn:n.length < 1000000) (hi:i < m.length) (hm:n.length≤m[i].length) (hk:∀ r∈n,k < r.length) (H:PH) (u v:Value) (bm bn:Nat) (t t':TypeId) (hu:MatH H u m) (hv:MatH H v n) (hbm:H bm=some (.cells ⟨[u]⟩ t (0,0))) (hbn:H bn=some (.cells ⟨[v]⟩ t' (0,0))) :
    Cl Tryz.prog 176 [place i k,.pointer (some ⟨bn,0,none⟩),.pointer (some ⟨bm,0,none⟩)] H emp fun r _ _=>r=ne (mulAt m n i k):=by
  obtain⟨base,cap,rfl⟩:=hv.sl
  refine Cl_of (pol:=fun | 3=>.imm | _=>.loc) Γok Tryz.func176 (by kernel_rfl) rfl ?_
  conv=>whnf
  intro bp hbp _
  conv=>whnf
  intro b4
  conv=>whnf
  have hs:=sub_ins H (.cells ⟨[.int .i64 i,.int .i64 k]⟩ 119 (0,0)) hbp
  refine⟨_,Rd.whole (hs _ _ hbn),?_⟩
  conv=>whnf
  refine (c118 (fun t=>entry m i t) (fun t=>entry n t k) n.length hn _ _ _ _ _ _ _ (fun j hj=>?_) (fun j hj=>?_)).val fun H2 s2=>?_
  · rw[entry_get hi (by omega)]
    exact⟨177,[],[_,_],rfl,fun H' hs'=>c167 m j i k hi (by omega) H' _ _ _ _ _ ((hu.up hs).up hs') (hs' _ _ (hs _ _ hbm)) (hs' _ _ (ins_same _ _ _))⟩
  · have hjk:=hk n[j] (List.getElem_mem hj)
    rw[entry_get hj hjk]
    exact⟨178,[],[_,_],rfl,fun H' hs'=>c168 n j i k hj hjk H' _ _ _ _ _ ((hv.up hs).up hs') (hs' _ _ (hs _ _ hbn)) (hs' _ _ (ins_same _ _ _))⟩
  conv=>whnf
  rfl
theorem c112 (m n : List (List (P4 × Int))) (hm:m.length < 1000000) (hn0:0 < n.length) (hn:n.length < 1000000) (hw:wideM n < 1000000) (hmr:∀ r∈m,r.length=n.length) (hnr:∀ r∈n,r.length=wideM n) (H:PH) (u v:Value) (hu:MatH H u m) (hv:MatH H v n) :
    Cl Tryz.prog 89 [u,v] H emp fun r _ M'=>MadeE (mulAt m n) m.length (wideM n) r M':=by
  obtain⟨base,cap,rfl⟩:=hu.sl
  obtain⟨base',cap',rfl⟩:=hv.sl
  refine Cl_of (pol:=fun | 2=>.imm | 3=>.imm | _=>.loc) Γok Tryz.func89 (by kernel_rfl) rfl ?_
  conv=>whnf
  intro bm hbm _
  conv=>whnf
  intro bn hbn _
  conv=>whnf
  have s1:=sub_ins H (.cells ⟨[.slice base m.length cap]⟩ 111 (0,0)) hbm
  have s2:=sub_ins _ (.cells ⟨[.slice base' n.length cap']⟩ 111 (0,0)) hbn
  refine W_draw (pol:=polL) Γok mixes [(0,.pend),(1,.pend),(2,.pendO),(4,.pend),(3,.lock),(5,.lock),(6,.pendO),(7,.pendO),(8,.pendO),(9,.pendO)] 14 (by kernel_rfl) rfl ?_
  conv=>whnf
  refine (c111 n hn0 _ _ ((hv.up s1).up s2)).val fun H2 s3=>?_
  conv=>whnf
  refine (c81 (mulAt m n) m.length (wideM n) hm hw _ _ _ _ (fun i k hi hk=>⟨176,[],[_,_],rfl,fun H' hs'=>?_⟩)).mono fun r H3 M3 s4 hr=>?_
  · exact c166 m n i k hn hi (by rw[hmr _ (List.getElem_mem hi)];exact Nat.le_refl _) (fun r hr=>by rw[hnr r hr];exact hk) H' _ _ _ _ _ _ ((((hu.up s1).up s2).up s3).up hs') ((((hv.up s1).up s2).up s3).up hs') (hs' _ _ (s3 _ _ (s2 _ _ (ins_same _ _ _)))) (hs' _ _ (s3 _ _ (ins_same _ _ _)))
  rcases hr with⟨he,rfl⟩ | ⟨he,u,rfl,hu⟩
  · conv=>whnf
    exact .inl ⟨he,rfl⟩
  · conv=>whnf
    exact .inr ⟨he,u,rfl,hu⟩
end Go.Proofs.YtgbhgfdgifkdhaaGreat

namespace Go.Proofs.YtgbhgfdgifkdhaaGreat
open Go.Proofs.YtgbhgfdgifkdhaaGreat.X Go.Proofs.YtgbhgfdgifkdhaaGreat.X.PH
set_option maxRecDepth 100000
theorem pair_mats {H : PH} {b:Nat} {t:TypeId} {u v:Value} {m n:List (List (P4 × Int))} (hb:H b=some (.cells ⟨[u,v]⟩ t (0,0))) (hu:MatH H u m) (hv:MatH H v n):MatsH H (.slice (some ⟨b,0,none⟩) 2 2) [m,n]:=by
  refine⟨[u,v],rfl,⟨_,_,rfl,.inr ⟨b,0,_,_,_,rfl,hb,rfl⟩⟩,fun i m' u' hm hu'=>?_⟩
  match i,hm,hu' with
  | 0,hm,hu'=>cases hm;cases hu';exact hu
  | 1,hm,hu'=>cases hm;cases hu';exact hv
structure Right (m : List (List (P4 × Int))):Prop where
  pos:0 < m.length
  le:m.length≤64
  row:∀ r∈m,r.length=wideM m
  wpos:0 < wideM m
  wle:wideM m≤64
theorem right_of {m : List (List (P4 × Int))} (h:checkMF m=0):Right m:=by
  rw[checkMF_checkMR] at h
  obtain⟨z1,z2,z3,_⟩:=checkMR_zero h
  have h0:=z3 _ (List.getElem_mem z1)
  have e:=wideM_get z1
  exact⟨z1,z2,fun r hr=>(z3 r hr).2.2,by omega,by omega⟩
theorem rights_of {m n : List (List (P4 × Int))} (h:errsM [m,n]=0):Right m∧Right n:=by
  have:=firstErr_zero h
  exact⟨right_of (this _ (by simp)),right_of (this _ (by simp))⟩
def MulM (m n : List (List (P4 × Int))) (r:Value) (M:PH):Prop:=
  (errsM [m,n] ≠ 0∧r=.tuple #[.slice none 0 0,.int .i64 (errsM [m,n])])∨(errsM [m,n]=0∧wideM m ≠ n.length∧r=.tuple #[.slice none 0 0,.int .i64 7]) ∨
  (errsM [m,n]=0∧wideM m=n.length∧MadeE (mulAt m n) m.length (wideM n) r M)
theorem c40 (m n : List (List (P4 × Int))) (hlm:m.length < 1000000) (hln:n.length < 1000000) (H:PH) (u v:Value) (hu:MatH H u m) (hv:MatH H v n):Cl Tryz.prog 28 [u,v] H emp fun r _ M'=>MulM m n r M':=by
  obtain⟨base,cap,rfl⟩:=hu.sl
  obtain⟨base',cap',rfl⟩:=hv.sl
  refine Cl_of (pol:=fun | 9=>.imm | _=>.loc) Γok Tryz.func28 (by kernel_rfl) rfl ?_
  conv=>whnf
  intro b hb _
  conv=>whnf
  have s1:=sub_ins H (.cells ⟨[.slice base m.length cap,.slice base' n.length cap']⟩ 23 (0,0)) hb
  refine (c101 [m,n] (by simp) (by simp;omega) _ _ (pair_mats (ins_same _ _ _) (hu.up s1) (hv.up s1))).val fun H2 s2=>?_
  conv=>whnf
  refine if_intro (fun he=>?_) (fun he=>?_)
  · conv=>whnf
    exact .inl ⟨by simpa using he,rfl⟩
  · have he:errsM [m,n]=0:=by simpa using he
    obtain⟨rm,rn⟩:=rights_of he
    have hu2:=(hu.up s1).up s2
    have hv2:=(hv.up s1).up s2
    conv=>whnf
    refine (c111 m rm.pos _ _ hu2).val fun H3 s3=>?_
    conv=>whnf
    refine if_intro (fun hw=>?_) (fun hw=>?_)
    · conv=>whnf
      exact .inr (.inl ⟨he,by simp at hw;omega,rfl⟩)
    · have hw:wideM m=n.length:=by simp at hw;omega
      conv=>whnf
      refine (c112 m n hlm rn.pos hln (by have:=rn.wle;omega) (fun r hr=>(rm.row r hr).trans hw) rn.row _ _ _ (hu2.up s3) (hv2.up s3)).mono fun r H4 M4 s4 hr=>?_
      rcases hr with⟨h1,rfl⟩ | ⟨h1,u,rfl,h2⟩
      · conv=>whnf
        exact .inr (.inr ⟨he,hw,.inl ⟨h1,rfl⟩⟩)
      · conv=>whnf
        exact .inr (.inr ⟨he,hw,.inr ⟨h1,u,rfl,h2⟩⟩)
def kronAt (m n : List (List (P4 × Int))) (i k:Nat):(P4 × Int) × Int:=MulF (entry m (i / n.length) (k / wideM n)) (entry n (i % n.length) (k % wideM n))
theorem c113 (m n : List (List (P4 × Int))) (rm:Right m) (rn:Right n) (i k:Nat) (hi:i < m.length*n.length) (hk:k < wideM m*wideM n) (H:PH) (u v:Value) (bm bn:Nat) (t t':TypeId) (hu:MatH H u m) (hv:MatH H v n) (hbm:H bm=some (.cells ⟨[u]⟩ t (0,0))) (hbn:H bn=some (.cells ⟨[v]⟩ t' (0,0))) :
    Cl Tryz.prog 134 [place i k,.pointer (some ⟨bm,0,none⟩),.pointer (some ⟨bn,0,none⟩)] H emp fun r _ _=>r=ne (kronAt m n i k):=by
  obtain⟨base,cap,rfl⟩:=hu.sl
  obtain⟨base',cap',rfl⟩:=hv.sl
  have hn0:=rn.pos
  have hw0:=rn.wpos
  have i1:i / n.length < m.length:=Nat.div_lt_of_lt_mul (by rw[Nat.mul_comm];exact hi)
  have i2:i % n.length < n.length:=Nat.mod_lt _ hn0
  have k1:k / wideM n < wideM m:=Nat.div_lt_of_lt_mul (by rw[Nat.mul_comm];exact hk)
  have k2:k % wideM n < wideM n:=Nat.mod_lt _ hw0
  have r1:=rm.row _ (List.getElem_mem i1)
  have r2:=rn.row _ (List.getElem_mem i2)
  obtain⟨b0,off,b',off',cu,rfl,h1,h2⟩:=hu.row' i1 (k:=k / wideM n) (by omega)
  obtain⟨b1,off1,b1',off1',cv,rfl,h3,h4⟩:=hv.row' i2 (k:=k % wideM n) (by omega)
  obtain⟨b2,off2,bb2,cc2,hb2,h5,_⟩:=hv.rd (O:=emp) hn0
  cases hb2
  have h5:∀ O,Rd H O _ _ _:=fun O=>h5.anyO (O:=O)
  rw[← wideM_get hn0] at h5
  have rmle:=rm.le
  have wq:∀ q:Nat,q < 65→IntKind.i64.wrap (q:Int)=q:=fun q h=>wrap_id (by omega) (by omega)
  have rmwle:=rm.wle
  have q1:IntKind.i64.wrap ((i:Int).tdiv (n.length:Int))=((i / n.length:Nat):Int):=by
    rw[Int.tdiv_eq_ediv_of_nonneg (by omega),← Int.natCast_ediv];exact wq _ (by omega)
  have q2:IntKind.i64.wrap ((k:Int).tdiv (wideM n:Int))=((k / wideM n:Nat):Int):=by
    rw[Int.tdiv_eq_ediv_of_nonneg (by omega),← Int.natCast_ediv];exact wq _ (by omega)
  have q3:((i:Int).tmod (n.length:Int))=((i % n.length:Nat):Int):=by rw[Int.tmod_eq_emod_of_nonneg (by omega)];rfl
  have q4:((k:Int).tmod (wideM n:Int))=((k % wideM n:Nat):Int):=by rw[Int.tmod_eq_emod_of_nonneg (by omega)];rfl
  refine Cl_of (pol:=polL) Γok Tryz.func134 (by kernel_rfl) rfl ?_
  conv=>whnf
  repeat (intro _;conv=>whnf)
  refine W_draw (pol:=polL) Γok mixes [(0,.pendO),(1,.pendO),(2,.pendO),(3,.pendO),(4,.pendO),(5,.pendO),(6,.pendO),(7,.pendO),(8,.pendO),(9,.pendO),(10,.pendO),(11,.pendO),(12,.pendO),(13,.pendO),(14,.pendO),(15,.pendO),(16,.pendO),(17,.pendO),(18,.pendO),(19,.pendO),(20,.pendO),(21,.pendO),(22,.pendO),(23,.pendO),(24,.pendO),(25,.pendO),(26,.pendO),(27,.pendO),(28,.pendO),(29,.pendO),(30,.pendO),(31,.pendO),(32,.pendO),(33,.pendO),(34,.lock),(35,.pendO),(36,.pendO),(37,.lock),(38,.pendO)] 43 (by kernel_rfl) rfl ?_
  conv=>whnf
  refine⟨_,Rd.whole hbm,?_⟩
  conv=>whnf
  refine⟨_,Rd.whole hbn,?_⟩
  conv=>whnf
  refine dec_intro (by omega) ?_
  conv=>whnf
  rw[q1]
  conv=>whnf
  refine dec_intro (by omega) ?_
  conv=>whnf
  refine⟨_,h1 _,?_⟩
  conv=>whnf
  refine⟨_,Rd.whole hbn,?_⟩
  conv=>whnf
  refine dec_intro (by omega) ?_
  conv=>whnf
  refine⟨_,h5 _,?_⟩
  conv=>whnf
  refine dec_intro (by omega) ?_
  conv=>whnf
  rw[q2]
  conv=>whnf
  refine dec_intro (by omega) ?_
  conv=>whnf
  refine⟨_,h2 _,?_⟩
  conv=>whnf
  refine⟨_,Rd.whole hbn,?_⟩
  conv=>whnf
  refine⟨_,Rd.whole hbn,?_⟩
  conv=>whnf
  refine dec_intro (by omega) ?_
  conv=>whnf
  rw[q3]
  conv=>whnf
  refine dec_intro (by omega) ?_
  conv=>whnf
  refine⟨_,h3 _,?_⟩
  conv=>whnf
  refine⟨_,Rd.whole hbn,?_⟩
  conv=>whnf
  refine dec_intro (by omega) ?_
  conv=>whnf
  refine⟨_,h5 _,?_⟩
  conv=>whnf
  refine dec_intro (by omega) ?_
  conv=>whnf
  rw[q4]
  conv=>whnf
  refine dec_intro (by omega) ?_
  conv=>whnf
  refine⟨_,h4 _,?_⟩
  conv=>whnf
  refine (c104 m[i / n.length][k / wideM n] n[i % n.length][k % wideM n] _).val fun H1 s1=>?_
  conv=>whnf
  unfold kronAt
  rw[entry_get i1 (by omega),entry_get i2 (by omega)]
  rfl
end Go.Proofs.YtgbhgfdgifkdhaaGreat

namespace Go.Proofs.YtgbhgfdgifkdhaaGreat
open Go.Proofs.YtgbhgfdgifkdhaaGreat.X Go.Proofs.YtgbhgfdgifkdhaaGreat.X.PH
set_option maxRecDepth 100000
def KronM (m n : List (List (P4 × Int))) (r:Value) (M:PH):Prop:=
  (errsM [m,n] ≠ 0∧r=.tuple #[.slice none 0 0,.int .i64 (errsM [m,n])])∨(errsM [m,n]=0∧(sizedF ((m.length*n.length:Nat):Int) && sizedF ((wideM m*wideM n:Nat):Int))=false∧r=.tuple #[.slice none 0 0,.int .i64 2]) ∨
  (errsM [m,n]=0∧(sizedF ((m.length*n.length:Nat):Int) && sizedF ((wideM m*wideM n:Nat):Int))=true∧MadeE (kronAt m n) (m.length*n.length) (wideM m*wideM n) r M)
theorem c41 (m n : List (List (P4 × Int))) (hlm:m.length < 1000000) (hln:n.length < 1000000) (H:PH) (u v:Value) (hu:MatH H u m) (hv:MatH H v n):Cl Tryz.prog 55 [u,v] H emp fun r _ M'=>KronM m n r M':=by
  obtain⟨base,cap,rfl⟩:=hu.sl
  obtain⟨base',cap',rfl⟩:=hv.sl
  refine Cl_of (pol:=fun | 2=>.imm | 3=>.imm | 11=>.imm | _=>.loc) Γok Tryz.func55 (by kernel_rfl) rfl ?_
  conv=>whnf
  intro bm hbm _
  conv=>whnf
  intro bn hbn _
  conv=>whnf
  intro b hb _
  conv=>whnf
  have s1:=sub_ins H (.cells ⟨[.slice base m.length cap]⟩ 23 (0,0)) hbm
  have s2:=sub_ins _ (.cells ⟨[.slice base' n.length cap']⟩ 23 (0,0)) hbn
  have s3:=sub_ins _ (.cells ⟨[.slice base m.length cap,.slice base' n.length cap']⟩ 23 (0,0)) hb
  refine (c101 [m,n] (by simp) (by simp;omega) _ _ (pair_mats (ins_same _ _ _) (((hu.up s1).up s2).up s3) (((hv.up s1).up s2).up s3))).val fun H2 s4=>?_
  conv=>whnf
  refine if_intro (fun he=>?_) (fun he=>?_)
  · conv=>whnf
    exact .inl ⟨by simpa using he,rfl⟩
  · have he:errsM [m,n]=0:=by simpa using he
    obtain⟨rm,rn⟩:=rights_of he
    have hu2:=(((hu.up s1).up s2).up s3).up s4
    have hv2:=(((hv.up s1).up s2).up s3).up s4
    obtain⟨bu,ou,ru,cu,rfl,hru,_⟩:=hu2.rd (O:=emp) rm.pos
    obtain⟨bv,ov,rv,cv,rfl,hrv,_⟩:=hv2.rd (O:=emp) rn.pos
    rw[← wideM_get rm.pos] at hru
    rw[← wideM_get rn.pos] at hrv
    have p1:m.length*n.length≤64*64:=Nat.mul_le_mul rm.le rn.le
    have p2:wideM m*wideM n≤64*64:=Nat.mul_le_mul rm.wle rn.wle
    have q1:IntKind.i64.wrap ((m.length:Int)*(n.length:Int))=((m.length*n.length:Nat):Int):=by
      rw[← Int.natCast_mul];exact wrap_id (by omega) (by omega)
    have q2:IntKind.i64.wrap ((wideM m:Int)*(wideM n:Int))=((wideM m*wideM n:Nat):Int):=by
      rw[← Int.natCast_mul];exact wrap_id (by omega) (by omega)
    conv=>whnf
    have rmp:=rm.pos
    have rnp:=rn.pos
    refine W_draw (pol:=polL) Γok mixes [(0,.pendO),(1,.pendO),(2,.pendO),(3,.pendO),(4,.pendO),(5,.pendO),(6,.pendO),(7,.pendO),(8,.pendO),(9,.pendO),(10,.pendO),(11,.pendO),(12,.pendO),(13,.pendO),(14,.pendO),(15,.pendO)] 44 (by kernel_rfl) rfl ?_
    conv=>whnf
    refine dec_intro (by omega) ?_
    conv=>whnf
    refine⟨_,hru,?_⟩
    conv=>whnf
    refine dec_intro (by omega) ?_
    conv=>whnf
    refine⟨_,hrv,?_⟩
    conv=>whnf
    rw[q1,q2]
    refine (c89 _ _).val fun H3 s5=>?_
    conv=>whnf
    have mk:(sizedF ((m.length*n.length:Nat):Int) && sizedF ((wideM m*wideM n:Nat):Int))=true→∀ H4,Sub H2 H4→Cl Tryz.prog 113 [.int .i64 ((m.length*n.length:Nat):Int),.int .i64 ((wideM m*wideM n:Nat):Int),.func (.func 134) #[] #[.pointer (some ⟨bm,0,none⟩),.pointer (some ⟨bn,0,none⟩)]] H4 emp fun r _ M'=>MadeE (kronAt m n) (m.length*n.length) (wideM m*wideM n) r M':=by
      intro _ H4 s6
      exact c81 (kronAt m n) _ _ (by omega) (by omega) H4 _ _ _ fun i k hi hk=>⟨134,[],[_,_],rfl,fun H' hs'=>c113 m n rm rn i k hi hk H' _ _ _ _ _ _ ((hu2.up s6).up hs') ((hv2.up s6).up hs') (hs' _ _ (s6 _ _ (s4 _ _ (s3 _ _ (s2 _ _ (ins_same _ _ _)))))) (hs' _ _ (s6 _ _ (s4 _ _ (s3 _ _ (ins_same _ _ _)))))⟩
    refine if_intro (fun hz=>?_) (fun hz=>?_)
    · conv=>whnf
      exact .inr (.inl ⟨he,by rw[show sizedF ((m.length*n.length:Nat):Int)=false by simpa using hz,Bool.false_and],rfl⟩)
    · have hz:sizedF ((m.length*n.length:Nat):Int)=true:=by simpa using hz
      conv=>whnf
      refine (c89 _ _).val fun H4 s6=>?_
      conv=>whnf
      refine if_intro (fun hz'=>?_) (fun hz'=>?_)
      · conv=>whnf
        exact .inr (.inl ⟨he,by rw[show sizedF ((wideM m*wideM n:Nat):Int)=false by simpa using hz',Bool.and_false],rfl⟩)
      · have hz':sizedF ((wideM m*wideM n:Nat):Int)=true:=by simpa using hz'
        have hzz:(sizedF ((m.length*n.length:Nat):Int) && sizedF ((wideM m*wideM n:Nat):Int))=true:=by rw[hz,hz'];rfl
        conv=>whnf
        refine (mk hzz _ (s5.trans s6)).mono fun r H5 M5 s7 hr=>?_
        rcases hr with⟨h1,rfl⟩ | ⟨h1,u,rfl,h2⟩
        · conv=>whnf
          exact .inr (.inr ⟨he,hzz,.inl ⟨h1,rfl⟩⟩)
        · conv=>whnf
          exact .inr (.inr ⟨he,hzz,.inr ⟨h1,u,rfl,h2⟩⟩)
end Go.Proofs.YtgbhgfdgifkdhaaGreat

namespace Go.Proofs.YtgbhgfdgifkdhaaGreat
open Go.Proofs.YtgbhgfdgifkdhaaGreat.X Go.Proofs.YtgbhgfdgifkdhaaGreat.X.PH
set_option maxRecDepth 100000
def errV (r : List (P4 × Int)):Int:=if sizedF r.length then errsF r else 2
def errsV (m : List (List (P4 × Int))):Int:=firstErr (m.map errV)
theorem c117 (m : List (List (P4 × Int))) (hlen:m.length < 1000000) (H:PH) (v:Value) (hv:MatH H v m):Cl Tryz.prog 139 [v] H emp fun r _ _=>r=.int .i64 (errsV m):=by
  obtain⟨base,cap,rfl⟩:=hv.sl
  refine Cl_of (pol:=polL) Γok Tryz.func139 (by kernel_rfl) rfl ?_
  conv=>whnf
  refine W_loop (pol:=polL) Γok (Nat × PH) (fun i=>i.1≤m.length∧Sub H i.2∧errsV m=errsV (m.drop i.1)) (fun i=>m.length - i.1) (fun i=>[(10,.v (.int .i64 i.1))]) (fun _=>[]) (fun i=>i.2) (fun _=>emp) ⟨(0,H),⟨by simp,Sub.refl _,by simp⟩,rfl,rfl,?_⟩ ?_
  · conv=>whnf
    repeat (refine⟨rfl,?_⟩;conv=>whnf)
    exact trivial
  · rintro ⟨i,H'⟩ ⟨h1,h2,h3⟩
    dsimp only at h1 h2 h3
    conv=>whnf
    refine if_intro (fun h=>?_) (fun h=>?_)
    · have hi:i < m.length:=by simpa using h
      obtain⟨b,off,bb,cc,rfl,hrd,hn⟩:=(hv.up h2).rd (O:=emp) hi
      have hst:=firstErr_step errV hi
      conv=>whnf
      refine dec_intro (by omega) ?_
      conv=>whnf
      refine⟨_,hrd,?_⟩
      conv=>whnf
      refine (c89 _ _).val fun H2 s2=>?_
      conv=>whnf
      refine if_intro (fun hz=>?_) (fun hz=>?_)
      · conv=>whnf
        have hz:sizedF m[i].length=false:=by simpa using hz
        have e:errV m[i]=2:=by unfold errV;rw[hz];rfl
        rw[h3]
        unfold errsV
        rw[hst,e]
        rfl
      · have hz:sizedF m[i].length=true:=by simpa using hz
        have e:errV m[i]=errsF m[i]:=by unfold errV;rw[hz];rfl
        have hle:m[i].length≤64:=by
          unfold sizedF at hz
          simp at hz
          omega
        conv=>whnf
        refine W_loopX (pol:=polL) Γok (Nat × PH) (fun k=>k.1≤m[i].length∧Sub H k.2∧Sub H' k.2∧errsF m[i]=errsF (m[i].drop k.1)) (fun k=>m[i].length - k.1) (fun e k=>e=.exit 2∧Sub H k.2∧errV m[i]=0) (fun k=>[(20,.v (.int .i64 k.1))]) (fun _=>[]) (fun k=>k.2) (fun _=>emp) ⟨(0,H2),⟨by simp,h2.trans s2,s2,by simp⟩,rfl,rfl,?_⟩ ?_ ?_
        · conv=>whnf
          repeat (refine⟨rfl,?_⟩;conv=>whnf)
          exact trivial
        · rintro ⟨k,H3⟩ ⟨k1,k2,k3,k4⟩
          dsimp only at k1 k2 k3 k4
          conv=>whnf
          refine if_intro (fun h=>?_) (fun h=>?_)
          · have hk:k < m[i].length:=by simpa using h
            obtain⟨_,b',off',rfl,hrd'⟩:=(hn.up k3).rd (O:=emp) hk
            conv=>whnf
            refine dec_intro (by omega) ?_
            conv=>whnf
            refine⟨_,hrd',?_⟩
            conv=>whnf
            intro bx
            conv=>whnf
            refine (c93 m[i][k].1 m[i][k].2 _).val fun H4 s4=>?_
            conv=>whnf
            have hst':=firstErr_step (fun x:P4 × Int=>checkF x.1 x.2) hk
            refine if_intro (fun he=>?_) (fun he=>?_)
            · conv=>whnf
              refine .inl ?_
              conv=>whnf
              have he:checkF m[i][k].1 m[i][k].2 ≠ 0:=by simpa using he
              have e3:errsF m[i]=checkF m[i][k].1 m[i][k].2:=by
                rw[k4]
                unfold errsF
                rw[hst',if_neg he]
              rw[h3]
              unfold errsV
              rw[hst,e,e3,if_neg he]
            · conv=>whnf
              refine⟨(k+1,H4),⟨hk,k2.trans s4,k3.trans s4,?_⟩,by dsimp only;omega,?_⟩
              · rw[k4]
                unfold errsF
                rw[hst',if_pos (by simpa using he)]
              · conv=>whnf
                refine⟨rfl,rfl,?_⟩
                conv=>whnf
                repeat (refine⟨rfl,?_⟩;conv=>whnf)
                refine⟨by show En.v (.int .i64 (IntKind.i64.wrap (k+1)))=_;rw[wrap_id (by omega) (by omega)];rfl,?_⟩
                conv=>whnf
                repeat (refine⟨rfl,?_⟩;conv=>whnf)
                exact trivial
          · have hk:m[i].length≤k:=by simpa using h
            conv=>whnf
            refine .inr ⟨(k,H3),⟨rfl,k2,?_⟩,?_⟩
            · rw[e,k4,List.drop_of_length_le hk];rfl
            · conv=>whnf
              refine⟨rfl,rfl,?_⟩
              conv=>whnf
              repeat (refine⟨rfl,?_⟩;conv=>whnf)
              exact trivial
        · rintro ex ⟨k,H3⟩ ⟨rfl,k2,k3⟩
          conv=>whnf
          refine⟨(i+1,H3),⟨hi,k2,?_⟩,by dsimp only;omega,?_⟩
          · rw[h3]
            unfold errsV
            rw[hst,if_pos k3]
          · conv=>whnf
            refine⟨rfl,rfl,?_⟩
            conv=>whnf
            repeat (refine⟨rfl,?_⟩;conv=>whnf)
            refine⟨by show En.v (.int .i64 (IntKind.i64.wrap (i+1)))=_;rw[wrap_id (by omega) (by omega)];rfl,?_⟩
            conv=>whnf
            repeat (refine⟨rfl,?_⟩;conv=>whnf)
            exact trivial
    · have hi:m.length≤i:=by simpa using h
      conv=>whnf
      rw[h3,List.drop_of_length_le hi]
      rfl
theorem c121 (l : List (P4 × Int)) (i:Nat) (hi:i < l.length) (H:PH) (v:Value) (b:Nat) (t:TypeId) (hv:NumH H v l) (hb:H b=some (.cells ⟨[v]⟩ t (0,0))):Cl Tryz.prog 143 [.int .i64 i,.pointer (some ⟨b,0,none⟩)] H emp fun r _ _=>r=nv (ConjF l[i]).1:=by
  obtain⟨base,cap,rfl,_⟩:=id hv
  obtain⟨_,b',off',rfl,hrd⟩:=hv.rd (O:=emp) hi
  refine Cl_of (pol:=polL) Γok Tryz.func143 (by kernel_rfl) rfl ?_
  conv=>whnf
  repeat (intro _;conv=>whnf)
  refine⟨_,Rd.whole hb,?_⟩
  conv=>whnf
  refine dec_intro (by omega) ?_
  conv=>whnf
  refine⟨_,hrd,?_⟩
  conv=>whnf
  refine (c122 l[i] _).val fun H1 s1=>?_
  conv=>whnf
  repeat (intro _;conv=>whnf)
  rfl
theorem c123 (l : List (P4 × Int)) (i:Nat) (hi:i < l.length) (H:PH) (v:Value) (b:Nat) (t:TypeId) (hv:NumH H v l) (hb:H b=some (.cells ⟨[v]⟩ t (0,0))):Cl Tryz.prog 145 [.int .i64 i,.pointer (some ⟨b,0,none⟩)] H emp fun r _ _=>r=nv l[i]:=by
  obtain⟨base,cap,rfl,_⟩:=id hv
  obtain⟨_,b',off',rfl,hrd⟩:=hv.rd (O:=emp) hi
  refine Cl_of (pol:=polL) Γok Tryz.func145 (by kernel_rfl) rfl ?_
  conv=>whnf
  repeat (intro _;conv=>whnf)
  refine⟨_,Rd.whole hb,?_⟩
  conv=>whnf
  refine dec_intro (by omega) ?_
  conv=>whnf
  refine⟨_,hrd,?_⟩
  conv=>whnf
  rfl
def atL (l : List (P4 × Int)) (i:Nat):P4 × Int:=l.getD i (P4.zero,0)
theorem atL_get {l : List (P4 × Int)} {i:Nat} (hi:i < l.length):atL l i=l[i]:=by
  unfold atL
  simp[List.getD_eq_getElem?_getD,hi]
def InnerF (u v : List (P4 × Int)):(P4 × Int) × Int:=
  if errsV [u,v] ≠ 0 then ((P4.zero,0),errsV [u,v]) else if u.length ≠ v.length then ((P4.zero,0),7) else dotF (fun i=>(ConjF (atL u i)).1) (fun i=>atL v i) u.length
theorem c47 (l k : List (P4 × Int)) (hl:l.length < 1000000) (hk:k.length < 1000000) (H:PH) (u v:Value) (hu:NumH H u l) (hv:NumH H v k):Cl Tryz.prog 61 [u,v] H emp fun r _ _=>r=ne (InnerF l k):=by
  obtain⟨base,cap,rfl,_⟩:=id hu
  obtain⟨base',cap',rfl,_⟩:=id hv
  refine Cl_of (pol:=fun | 2=>.imm | 3=>.imm | 9=>.imm | _=>.loc) Γok Tryz.func61 (by kernel_rfl) rfl ?_
  conv=>whnf
  intro bm hbm _
  conv=>whnf
  intro bn hbn _
  conv=>whnf
  intro b4
  conv=>whnf
  intro b hb _
  conv=>whnf
  have s1:=sub_ins H (.cells ⟨[.slice base l.length cap]⟩ 31 (0,0)) hbm
  have s2:=sub_ins _ (.cells ⟨[.slice base' k.length cap']⟩ 31 (0,0)) hbn
  have s3:=sub_ins _ (.cells ⟨[.slice base l.length cap,.slice base' k.length cap']⟩ 31 (0,0)) hb
  have hu3:=((hu.up s1).up s2).up s3
  have hv3:=((hv.up s1).up s2).up s3
  refine (c117 [l,k] (by simp) _ _ (mat2 (ins_same _ _ _) hu3 hv3)).val fun H2 s4=>?_
  conv=>whnf
  unfold InnerF
  refine if_intro (fun he=>?_) (fun he=>?_)
  · conv=>whnf
    rw[if_pos (show errsV [l,k] ≠ 0 by simpa using he)]
    rfl
  · rw[if_neg (show ¬ errsV [l,k] ≠ 0 by simpa using he)]
    conv=>whnf
    refine if_intro (fun hd=>?_) (fun hd=>?_)
    · conv=>whnf
      rw[if_pos (show l.length ≠ k.length by simp at hd;omega)]
      rfl
    · have hd:l.length=k.length:=by simp at hd;omega
      rw[if_neg (show ¬ l.length ≠ k.length by omega)]
      conv=>whnf
      refine (c118 (fun i=>(ConjF (atL l i)).1) (fun i=>atL k i) l.length hl _ _ _ _ _ _ _ (fun i hi=>?_) (fun i hi=>?_)).val fun H3 s5=>?_
      · rw[atL_get hi]
        exact⟨143,[],[_],rfl,fun H' hs'=>c121 l i hi H' _ _ _ ((hu3.up s4).up hs') (hs' _ _ (s4 _ _ (s3 _ _ (s2 _ _ (ins_same _ _ _)))))⟩
      · rw[atL_get (by omega)]
        exact⟨145,[],[_],rfl,fun H' hs'=>c123 k i (by omega) H' _ _ _ ((hv3.up s4).up hs') (hs' _ _ (s4 _ _ (s3 _ _ (ins_same _ _ _))))⟩
      conv=>whnf
      rfl
theorem c65 (a : Int) (H:PH):Cl Tryz.prog 13 [.int .i64 a] H emp fun r _ _=>r=nv ((⟨a,0,0,0⟩:P4),0):=by
  refine Cl_of (pol:=polL) Γok Tryz.func13 (by kernel_rfl) rfl ?_
  conv=>whnf
  repeat (intro _;conv=>whnf)
  rfl
end Go.Proofs.YtgbhgfdgifkdhaaGreat

namespace Go.Proofs.YtgbhgfdgifkdhaaGreat
open Go.Proofs.YtgbhgfdgifkdhaaGreat.X Go.Proofs.YtgbhgfdgifkdhaaGreat.X.PH
set_option maxRecDepth 100000
def intN (a : Int):P4 × Int:=(⟨a,0,0,0⟩,0)
def intsL (l : List Int):List (P4 × Int):=l.map intN
def intsF (ll : List (List Int)):List (List (P4 × Int)):=ll.map intsL
def IntsH (H : PH) (v:Value) (l:List Int):Prop:=SlH H v l.length (l.map fun a=>.int .i64 a)
def IntssH (H : PH) (v:Value) (ll:List (List Int)):Prop:=
  ∃ vs:List Value,vs.length=ll.length∧SlH H v ll.length vs∧∀ (i:Nat) l u,ll[i]?=some l→vs[i]?=some u→IntsH H u l
theorem IntsH.up {H H' : PH} {v:Value} {l:List Int} (h:IntsH H v l) (hs:Sub H H'):IntsH H' v l:=SlH.up h hs
theorem IntssH.up {H H' : PH} {v:Value} {ll:List (List Int)} (h:IntssH H v ll) (hs:Sub H H'):IntssH H' v ll:=by
  obtain⟨vs,h1,h2,h3⟩:=h
  exact⟨vs,h1,h2.up hs,fun i l u hl hu=>(h3 i l u hl hu).up hs⟩
theorem IntsH.rd {H : PH} {base:Option Addr} {n cap:Nat} {l:List Int} (h:IntsH H (.slice base n cap) l) {i:Nat} (hi:i < l.length) :
    ∃ b off,base=some ⟨b,off,none⟩∧∀ O,Rd H O ⟨b,off+i*1,none⟩ 1 [.int .i64 l[i]]:=by
  obtain⟨_,_,hv,_⟩:=id h
  cases hv
  obtain⟨b,off,hb,hrd⟩:=SlH.rd (O:=emp) (sz:=1) h (by simp) hi
  have e:(List.take 1 (List.drop (i*1) (l.map fun x=>Value.int .i64 x)))=[.int .i64 l[i]]:=by
    rw[Nat.mul_one,List.drop_eq_getElem_cons (by simpa using hi)];simp
  rw[e] at hrd
  exact⟨b,off,hb,fun O=>hrd.anyO⟩
theorem IntssH.rd {H : PH} {base:Option Addr} {n cap:Nat} {ll:List (List Int)} (h:IntssH H (.slice base n cap) ll) {i:Nat} (hi:i < ll.length) :
    ∃ b off base' cap',base=some ⟨b,off,none⟩∧(∀ O,Rd H O ⟨b,off+i*1,none⟩ 1 [.slice base' ll[i].length cap'])∧IntsH H (.slice base' ll[i].length cap') ll[i]:=by
  obtain⟨vs,h1,h2,h3⟩:=h
  obtain⟨_,_,hv,_⟩:=id h2
  cases hv
  obtain⟨b,off,hb,hrd⟩:=SlH.one (O:=emp) h2 h1 hi
  have hu:=h3 i ll[i] _ (List.getElem?_eq_getElem hi) (List.getElem?_eq_getElem (show i < vs.length by omega))
  obtain⟨base',cap',e,_⟩:=id hu
  rw[e] at hrd hu
  exact⟨b,off,base',cap',hb,fun O=>hrd.anyO,hu⟩
theorem OwnS.keep {O O' : PH} {sz:Nat} {t:TypeId} {v:Value} {xs:List (List Value)} (h:OwnS O sz t v xs) (hk:∀ (n:Nat) cs,O n=some (.cells cs t (0,0))→O' n=some (.cells cs t (0,0))):OwnS O' sz t v xs:=by
  obtain⟨h1,h⟩:=h
  refine⟨h1,h.imp id ?_⟩
  rintro ⟨b,cap,spare,e,hO,h2,h3⟩
  exact⟨b,cap,spare,e,hk _ _ hO,h2,h3⟩
theorem NumO.pub' {H M : PH} {v:Value} {l:List (P4 × Int)} {out:Value} {xs:List (List Value)} (hd:Dis H M) (h:NumO M v l) (ho:OwnS M 1 31 out xs):∃ H' M',Repart H M H' M'∧NumH H' v l∧OwnS M' 1 31 out xs:=by
  obtain⟨h1,h⟩:=h
  rcases h with⟨rfl,h⟩ | ⟨b,cap,spare,rfl,hO,hcap,hsp⟩
  · have:l=[]:=by simpa using h
    subst this
    exact⟨H,M,.refl hd,⟨none,0,rfl,.inl ⟨rfl,rfl⟩⟩,ho⟩
  · refine⟨_,_,.one hd hO,⟨some ⟨b,0,none⟩,cap,by simp,.inr ⟨b,0,_,_,_,rfl,ins_same _ _ _,?_⟩⟩,OwnS.keep ho fun n cs hn=>(del_ne _ fun e=>(by rw[e,hO] at hn;cases hn)).trans hn⟩
    simp[cellsN]
def polI : Tmp→Pol:=fun | 24=>.imm | 29=>.imm | _=>.loc
theorem c64 (ll : List (List Int)) (hlen:ll.length≤100000) (hrow:∀ l∈ll,l.length≤100000) (H:PH) (v:Value) (hv:IntssH H v ll) :
    Cl Tryz.prog 10 [v] H emp fun r H' M'=>∃ us,OwnS M' 1 31 r (us.map fun u=>[u])∧RowsH H' us (intsF ll):=by
  obtain⟨base,cap,rfl⟩:∃ base cap,v=.slice base ll.length cap:=by
    obtain⟨_,_,⟨b,c,h,_⟩,_⟩:=hv
    exact⟨b,c,h⟩
  refine Cl_of (pol:=polI) Γok Tryz.func10 (by kernel_rfl) rfl ?_
  conv=>whnf
  refine W_loop (pol:=polI) Γok (Nat × PH × Value × PH) (fun i=>i.1≤ll.length∧Sub H i.2.1∧∃ us,OwnS i.2.2.2 1 31 i.2.2.1 (us.map fun u=>[u])∧RowsH i.2.1 us (intsF (ll.take i.1))) (fun i=>ll.length - i.1) (fun i=>[(11,.v (.int .i64 i.1)),(3,.v i.2.2.1)]) (fun _=>[]) (fun i=>i.2.1) (fun i=>i.2.2.2) ⟨(0,H,.slice none 0 0,emp),⟨by simp,Sub.refl _,[],?_,?_⟩,rfl,rfl,?_⟩ ?_
  · exact⟨by simp,.inl ⟨rfl,by simp⟩⟩
  · exact⟨by simp[intsF],by simp⟩
  · conv=>whnf
    repeat (refine⟨rfl,?_⟩;conv=>whnf)
    exact trivial
  · rintro ⟨i,H',out,O'⟩ ⟨h1,h2,us,h3,h4⟩
    dsimp only at h1 h2 h3 h4
    conv=>whnf
    refine if_intro (fun h=>?_) (fun h=>?_)
    · have hi:i < ll.length:=by simpa using h
      obtain⟨b,off,base',cap',rfl,hrd,hn⟩:=(hv.up h2).rd hi
      conv=>whnf
      refine dec_intro (by omega) ?_
      conv=>whnf
      refine⟨_,hrd _,?_⟩
      conv=>whnf
      have hl:=hrow _ (List.getElem_mem hi)
      refine W_repart ?_
      refine W_loopX (pol:=polI) Γok (Nat × PH × Value × PH) (fun k=>k.1≤ll[i].length∧Sub H' k.2.1∧OwnS k.2.2.2 1 31 out (us.map fun u=>[u])∧NumO k.2.2.2 k.2.2.1 (intsL (ll[i].take k.1))) (fun k=>ll[i].length - k.1)
        (fun e k=>e=.exit 2∧Sub H' k.2.1∧OwnS k.2.2.2 1 31 out (us.map fun u=>[u])∧NumO k.2.2.2 k.2.2.1 (intsL ll[i])) (fun k=>[(17,.v (.int .i64 k.1)),(6,.v k.2.2.1)]) (fun _=>[]) (fun k=>k.2.1) (fun k=>k.2.2.2) ⟨(0,H',.slice none 0 0,O'),⟨by simp,Sub.refl _,h3,?_⟩,rfl,rfl,?_⟩ ?_ ?_
      · exact⟨by simp[intsL],.inl ⟨rfl,by simp[intsL]⟩⟩
      · conv=>whnf
        repeat (refine⟨rfl,?_⟩;conv=>whnf)
        exact trivial
      · rintro ⟨k,H2,l,O2⟩ ⟨k1,k2,k3,k4⟩
        dsimp only at k1 k2 k3 k4
        conv=>whnf
        refine if_intro (fun h=>?_) (fun h=>?_)
        · have hk:k < ll[i].length:=by simpa using h
          obtain⟨b2,off2,rfl,hrd2⟩:=(hn.up k2).rd hk
          conv=>whnf
          refine dec_intro (by omega) ?_
          conv=>whnf
          refine⟨_,hrd2 _,?_⟩
          conv=>whnf
          refine (c65 ll[i][k] _).val fun H3 s3=>?_
          conv=>whnf
          intro b3 hb3 hO3
          conv=>whnf
          refine append_one' (xs:=(intsL (ll[i].take k)).map cellsOf) (y:=cellsOf (intN ll[i][k])) k4 rfl rfl (cellsOf_one _) ⟨_,_,_,rfl,rfl,Rd.whole (ins_same _ _ _)⟩ ?_ fun v O3 hO3 hkeep=>?_
          · simp[intsL]
            omega
          conv=>whnf
          have s4:=sub_ins H3 (.cells ⟨cellsOf (intN ll[i][k])⟩ 33 (0,0)) hb3
          refine⟨(k+1,ins H3 b3 (.cells ⟨cellsOf (intN ll[i][k])⟩ 33 (0,0)),v,O3),⟨hk,k2.trans (s3.trans s4),?_,?_⟩,by dsimp only;omega,?_⟩
          · refine OwnS.keep k3 fun n cs hn=>hkeep n _ hn fun cap e=>?_
            dsimp only at e
            rcases k4.2 with⟨e',_⟩ | ⟨b',cap',spare,e',hO',_⟩
            · rw[e] at e';cases e'
            · rw[e] at e'
              cases e'
              rw[hn] at hO'
              cases hO'
          · dsimp only
            rw[List.take_succ_eq_append_getElem hk]
            unfold intsL
            rw[List.map_append]
            show OwnS O3 5 33 v (List.map cellsOf (_++_))
            rw[List.map_append]
            exact hO3
          · conv=>whnf
            refine⟨rfl,rfl,?_⟩
            conv=>whnf
            repeat (refine⟨rfl,?_⟩;conv=>whnf)
            refine⟨by show En.v (.int .i64 (IntKind.i64.wrap (k+1)))=_;rw[wrap_id (by omega) (by omega)];rfl,?_⟩
            conv=>whnf
            repeat (refine⟨rfl,?_⟩;conv=>whnf)
            exact trivial
        · have hk:ll[i].length≤k:=by simpa using h
          conv=>whnf
          refine .inr ⟨(k,H2,l,O2),⟨rfl,k2,k3,?_⟩,?_⟩
          · rw[List.take_of_length_le hk] at k4;exact k4
          · conv=>whnf
            refine⟨rfl,rfl,?_⟩
            conv=>whnf
            repeat (refine⟨rfl,?_⟩;conv=>whnf)
            exact trivial
      · rintro e ⟨k,H2,l,O2⟩ ⟨rfl,k2,k3,k4⟩
        dsimp only at k2 k3 k4
        refine .inr fun hd=>?_
        obtain⟨H3,O3,rp,hn3,ho3⟩:=NumO.pub' hd k4 k3
        obtain⟨rb,rc,rfl⟩:∃ rb rc,l=.slice rb (intsL ll[i]).length rc:=by
          obtain⟨b,c,h,_⟩:=hn3
          exact⟨b,c,h⟩
        refine⟨H3,O3,rp,?_⟩
        conv=>whnf
        intro b2 hb2 hO2
        conv=>whnf
        refine append_one (xs:=us.map fun u=>[u]) (y:=[.slice rb (intsL ll[i]).length rc]) ho3 rfl rfl (slice_one hn3) ⟨_,_,_,rfl,rfl,Rd.whole (ins_same _ _ _)⟩ ?_ fun v O4 hO4 hfr=>?_
        · have:=h4.1
          simp[intsF] at this ⊢
          omega
        conv=>whnf
        have s5:=sub_ins H3 (.cells ⟨[.slice rb (intsL ll[i]).length rc]⟩ 31 (0,0)) hb2
        refine⟨(i+1,ins H3 b2 (.cells ⟨[.slice rb (intsL ll[i]).length rc]⟩ 31 (0,0)),v,O4),⟨hi,h2.trans (k2.trans (rp.sub.trans s5)),us++[.slice rb (intsL ll[i]).length rc],?_,?_⟩,by dsimp only;omega,?_⟩
        · show OwnS O4 1 31 v _
          rw[List.map_append]
          exact hO4
        · dsimp only
          rw[List.take_succ_eq_append_getElem hi]
          unfold intsF
          rw[List.map_append]
          exact (h4.up (k2.trans (rp.sub.trans s5))).snoc (hn3.up s5)
        · conv=>whnf
          refine⟨rfl,rfl,?_⟩
          conv=>whnf
          repeat (refine⟨rfl,?_⟩;conv=>whnf)
          refine⟨by show En.v (.int .i64 (IntKind.i64.wrap (i+1)))=_;rw[wrap_id (by omega) (by omega)];rfl,?_⟩
          conv=>whnf
          repeat (refine⟨rfl,?_⟩;conv=>whnf)
          exact trivial
    · conv=>whnf
      have hi:ll.length≤i:=by simpa using h
      rw[List.take_of_length_le hi] at h4
      exact⟨us,h3,h4⟩
theorem c64' (ll : List (List Int)) (hlen:ll.length≤100000) (hrow:∀ l∈ll,l.length≤100000) (H:PH) (v:Value) (hv:IntssH H v ll) :
    Cl Tryz.prog 10 [v] H emp fun r H' _=>MatH H' r (intsF ll):=
  (c64 ll hlen hrow H v hv).repart fun _ _ _ _ hd ⟨us,h1,h2⟩=>by
    obtain⟨H',M',r1,r2⟩:=OwnS.rows hd h1 h2
    exact⟨H',M',r1,r2⟩
end Go.Proofs.YtgbhgfdgifkdhaaGreat

namespace Go.Proofs.YtgbhgfdgifkdhaaGreat
open Go.Proofs.YtgbhgfdgifkdhaaGreat.X Go.Proofs.YtgbhgfdgifkdhaaGreat.X.PH
set_option maxRecDepth 100000
theorem Right.lens {m : List (List (P4 × Int))} (h:Right m):m.map List.length=List.replicate m.length (wideM m):=by
  rw[List.eq_replicate_iff]
  refine⟨by simp,fun n hn=>?_⟩
  obtain⟨r,hr,rfl⟩:=List.mem_map.1 hn
  exact h.row r hr
def samePh (m n : List (List (P4 × Int))) (k:Nat) (t:Nat):Bool:=
  eqN (LeastF (entry m (t / wideM m) (t % wideM m)).1 (entry m (t / wideM m) (t % wideM m)).2).1 (MulF (OmegaF k) (entry n (t / wideM m) (t % wideM m))).1
def allPh (m n : List (List (P4 × Int))) (k:Nat):Bool:=(List.range (m.length*wideM m)).all (samePh m n k)
def PhaseF (m n : List (List (P4 × Int))):Int × Int:=
  if errsM [m,n] ≠ 0 then (0,errsM [m,n]) else if alikeF m n=false then (0,7) else match (List.range 8).find? (allPh m n) with
    | some k=>(k,0)
    | none=>(0,6)
theorem c34 (m n : List (List (P4 × Int))) (hlm:m.length < 1000000) (hln:n.length < 1000000) (H:PH) (u v:Value) (hu:MatH H u m) (hv:MatH H v n):Cl Tryz.prog 32 [u,v] H emp fun r _ _=>r=.tuple #[.int .i64 (PhaseF m n).1,.int .i64 (PhaseF m n).2]:=by
  obtain⟨base,cap,rfl⟩:=hu.sl
  obtain⟨base',cap',rfl⟩:=hv.sl
  refine Cl_of (pol:=fun | 16=>.imm | _=>.loc) Γok Tryz.func32 (by kernel_rfl) rfl ?_
  conv=>whnf
  intro b2
  conv=>whnf
  intro b3
  conv=>whnf
  intro b hb _
  conv=>whnf
  have s1:=sub_ins H (.cells ⟨[.slice base m.length cap,.slice base' n.length cap']⟩ 23 (0,0)) hb
  refine (c101 [m,n] (by simp) (by simp;omega) _ _ (pair_mats (ins_same _ _ _) (hu.up s1) (hv.up s1))).val fun H2 s2=>?_
  conv=>whnf
  unfold PhaseF
  refine if_intro (fun he=>?_) (fun he=>?_)
  · conv=>whnf
    rw[if_pos (show errsM [m,n] ≠ 0 by simpa using he)]
  · have he:errsM [m,n]=0:=by simpa using he
    rw[if_neg (show ¬ errsM [m,n] ≠ 0 by simpa using he)]
    obtain⟨rm,rn⟩:=rights_of he
    have hu2:=(hu.up s1).up s2
    have hv2:=(hv.up s1).up s2
    conv=>whnf
    refine (c102 m n rm.pos rn.pos _ _ _ hu2 hv2).val fun H3 s3=>?_
    conv=>whnf
    refine if_intro (fun ha=>?_) (fun ha=>?_)
    · conv=>whnf
      rw[if_pos (show alikeF m n=false by simpa using ha)]
    · have ha:alikeF m n=true:=by simpa using ha
      rw[if_neg (show ¬ alikeF m n=false by rw[ha];simp)]
      have e1:m.length=n.length∧wideM m=wideM n:=by
        unfold alikeF at ha
        simp at ha
        omega
      have hu3:=hu2.up s3
      have hv3:=hv2.up s3
      conv=>whnf
      refine W_loop (pol:=polL) Γok (Nat × PH) (fun i=>i.1≤8∧Sub H3 i.2∧∀ k,k < i.1→allPh m n k=false) (fun i=>8 - i.1) (fun i=>[(25,.v (.int .i64 i.1))]) (fun _=>[]) (fun i=>i.2) (fun _=>emp) ⟨(0,H3),⟨by simp,Sub.refl _,by simp⟩,rfl,rfl,?_⟩ ?_
      · conv=>whnf
        repeat (refine⟨rfl,?_⟩;conv=>whnf)
        exact trivial
      · rintro ⟨i,H'⟩ ⟨h1,h2,h3⟩
        dsimp only at h1 h2 h3
        conv=>whnf
        refine if_intro (fun h=>?_) (fun h=>?_)
        · have hi:i < 8:=by simp at h;omega
          conv=>whnf
          refine (c54 i _).val fun H4 s4=>?_
          conv=>whnf
          intro b8
          conv=>whnf
          refine (c92 (m.map List.length) _ _ (by simpa using hlm) (fun n hn=>by obtain⟨r,hr,rfl⟩:=List.mem_map.1 hn;have:=rm.row r hr;have:=rm.wle;omega) ((hu3.up h2).up s4).shape).use fun it H5 s5 hit=>?_
          obtain⟨_,hit⟩:=hit
          rw[rm.lens] at hit
          conv=>whnf
          have step:∀ H6,Sub H' H6→allPh m n i=false→(i+1≤8∧Sub H3 H6∧∀ k,k < i+1→allPh m n k=false):=fun H6 s6 ha=>⟨hi,h2.trans s6,fun k hk=>by
            rcases Nat.lt_or_ge k i with h | h
            · exact h3 k h
            · rw[show k=i by omega];exact ha⟩
          refine W_range (pol:=polL) Γok (placesN 0 (List.replicate m.length (wideM m))) hit Unit (fun t _ H6=>Sub H' H6∧∀ q,q < t→samePh m n i q=true) (fun e _ H6=>e=.exit 1∧Sub H' H6∧allPh m n i=false) (fun _=>[]) (fun _=>emp) (fun _ _ _ _ hs h=>⟨h.1.trans hs,h.2⟩) (fun _ _ _ _ hs h=>⟨h.1,h.2.1.trans hs,h.2.2⟩) ⟨(),⟨s4.trans s5,by simp⟩,rfl,?_⟩ ?_ ?_ ?_
          · conv=>whnf
          · rintro t x hx ⟨⟩ H6 s6 ⟨t1,t2⟩ l o o' hl
            have hlt:t < m.length*wideM m:=by
              rw[← placesN_uniform_length m.length (wideM m)]
              exact (List.getElem?_eq_some_iff.1 hx).1
            obtain⟨g1,g2,g3⟩:=placesN_uniform hlt
            rw[g3] at hx
            cases hx
            have r1:=rm.row _ (List.getElem_mem g1)
            have g1':t / wideM m < n.length:=by omega
            have r2:=rn.row _ (List.getElem_mem g1')
            have hs:samePh m n i t=eqN (LeastF (m[t / wideM m][t % wideM m]'(by omega)).1 (m[t / wideM m][t % wideM m]'(by omega)).2).1 (MulF (OmegaF i) (n[t / wideM m][t % wideM m]'(by omega))).1:=by
              unfold samePh
              rw[entry_get g1 (by omega),entry_get g1' (by omega)]
            conv=>whnf
            intro b9
            conv=>whnf
            refine⟨rfl,?_⟩
            conv=>whnf
            refine⟨emp,rfl,?_⟩
            conv=>whnf
            refine (c84 m _ _ g1 (by omega) _ _ ((hu3.up h2).up t1)).val fun H7 s7=>?_
            conv=>whnf
            refine (c83 (m[t / wideM m][t % wideM m]'(by omega)).1 (m[t / wideM m][t % wideM m]'(by omega)).2 _).val fun H8 s8=>?_
            conv=>whnf
            intro b10
            conv=>whnf
            refine W_draw (pol:=polL) Γok mixes [(0,.pend),(1,.pendO),(2,.pendO),(3,.lock),(4,.lock),(5,.pendO),(6,.pendO),(7,.pendH),(8,.late),(9,.lock),(10,.pendO)] 53 (by kernel_rfl) rfl ?_
            conv=>whnf
            refine (c84 n _ _ g1' (by omega) _ _ ((((hv3.up h2).up t1).up s7).up s8)).val fun H9 s9=>?_
            conv=>whnf
            refine (c104 (OmegaF i) (n[t / wideM m][t % wideM m]'(by omega)) _).val fun H10 s10=>?_
            conv=>whnf
            intro b12
            conv=>whnf
            have ss:=t1.trans (s7.trans (s8.trans (s9.trans s10)))
            refine if_intro (fun hq=>?_) (fun hq=>?_)
            · conv=>whnf
              have hq:samePh m n i t=false:=by rw[hs];exact Bool.not_eq_true' _ |>.mp hq
              refine⟨(),.inr ⟨⟨rfl,ss,?_⟩,rfl⟩,rfl,rfl,?_⟩
              · unfold allPh
                rw[List.all_eq_false]
                exact⟨t,List.mem_range.2 hlt,by rw[hq];simp⟩
              conv=>whnf
              repeat (refine⟨rfl,?_⟩;conv=>whnf)
              exact trivial
            · conv=>whnf
              have hq:samePh m n i t=true:=by rw[hs];exact Bool.not_eq_false' .. |>.mp hq
              refine⟨(),.inl ⟨rfl,ss,fun q hqt=>?_⟩,rfl,rfl,?_⟩
              · rcases Nat.lt_or_ge q t with h | h
                · exact t2 q h
                · rw[show q=t by omega];exact hq
              conv=>whnf
              repeat (refine⟨rfl,?_⟩;conv=>whnf)
              exact trivial
          · rintro ⟨⟩ H6 s6 ⟨t1,t2⟩
            conv=>whnf
            rw[placesN_uniform_length] at t2
            have hall:allPh m n i=true:=List.all_eq_true.2 fun q hq=>t2 q (List.mem_range.1 hq)
            have hf:(List.range 8).find? (allPh m n)=some i:=by
              rw[List.find?_range_eq_some]
              refine⟨hall,by simpa using hi,fun j hj=>?_⟩
              rw[h3 j hj]
              rfl
            rw[hf]
          · rintro e ⟨⟩ H6 s6 ⟨rfl,t1,t2⟩
            conv=>whnf
            refine⟨(i+1,H6),step H6 t1 t2,by dsimp only;omega,?_⟩
            conv=>whnf
            refine⟨rfl,rfl,?_⟩
            conv=>whnf
            repeat (refine⟨rfl,?_⟩;conv=>whnf)
            refine⟨by show En.v (.int .i64 (IntKind.i64.wrap (i+1)))=_;rw[wrap_id (by omega) (by omega)];rfl,?_⟩
            conv=>whnf
            repeat (refine⟨rfl,?_⟩;conv=>whnf)
            exact trivial
        · conv=>whnf
          have hi:i=8:=by simp at h;omega
          subst hi
          have hf:(List.range 8).find? (allPh m n)=none:=by
            rw[List.find?_eq_none]
            intro k hk
            rw[h3 k (List.mem_range.1 hk)]
            simp
          rw[hf]
end Go.Proofs.YtgbhgfdgifkdhaaGreat

namespace Go.Proofs.YtgbhgfdgifkdhaaGreat
open Go.Proofs.YtgbhgfdgifkdhaaGreat.X Go.Proofs.YtgbhgfdgifkdhaaGreat.X.PH
set_option maxRecDepth 100000
theorem shl1 {n : Nat} (hn:n≤60):IntKind.i64.wrap (1*2 ^ (min (n:Int).toNat IntKind.i64.bits))=((2 ^ n:Nat):Int):=by
  have e:min ((n:Int).toNat) IntKind.i64.bits=n:=by
    show min _ 64=n
    rw[Int.toNat_natCast,Nat.min_eq_left (by omega)]
  have h:2 ^ n≤2 ^ 60:=Nat.pow_le_pow_right (by decide) hn
  have e2:(2:Int) ^ n=((2 ^ n:Nat):Int):=by simp
  rw[e,Int.one_mul,e2]
  generalize 2 ^ n=s at h ⊢
  exact wrap_id (by omega) (by omega)
def idM (n : Nat):Nat→List (List (P4 × Int)):=movedM (fun k=>k) n
theorem c20 (n : Nat) (hn:n≤6) (H:PH):Cl Tryz.prog 42 [.int .i64 n] H emp fun r H' M'=>∃ u bs,r=.tuple #[u,.int .i64 0]∧RowsB H' M' u bs (2 ^ n) (2 ^ n) (idM (2 ^ n) (2 ^ n)):=by
  have p2:2 ^ n < 1000000:=by
    have:2 ^ n≤2 ^ 6:=Nat.pow_le_pow_right (by decide) hn
    omega
  have key:∀ s:Nat,s=2 ^ n→(s:Int)=2 ^ n:=fun s h=>by rw[h];simp
  refine Cl_of (pol:=polL) Γok Tryz.func42 (by kernel_rfl) rfl ?_
  conv=>whnf
  refine if_intro (fun h=>?_) (fun h=>?_)
  · simp at h
    omega
  conv=>whnf
  refine W_draw (pol:=polL) Γok mixes [(0,.pendO),(1,.pendO),(2,.pendO),(3,.pendO),(4,.lock),(5,.pendO)] 31 (by kernel_rfl) rfl ?_
  conv=>whnf
  rw[shl1 (by omega)]
  obtain⟨s,hs⟩:∃ s,s=2 ^ n:=⟨_,rfl⟩
  rw[← hs] at p2 ⊢
  refine (c73p s s p2 p2 H).mono fun r H1 M1 hs1 hq=>?_
  obtain⟨bs,base,cap,rfl,hB⟩:=hq
  conv=>whnf
  refine W_loop (pol:=polL) Γok (Nat × PH × PH) (fun i=>i.1≤s∧Sub H1 i.2.1∧RowsB H1 i.2.2 (.slice base s cap) bs s s (idM s i.1)) (fun i=>s - i.1) (fun i=>[(19,.v (.int .i64 i.1))]) (fun _=>[]) (fun i=>i.2.1) (fun i=>i.2.2) ⟨(0,H1,M1),⟨by simp,Sub.refl _,hB⟩,rfl,rfl,?_⟩ ?_
  · conv=>whnf
    repeat (refine⟨rfl,?_⟩;conv=>whnf)
    exact trivial
  · rintro ⟨i,H',O⟩ ⟨h1,h2,h3⟩
    dsimp only at h1 h2 h3
    conv=>whnf
    refine if_intro (fun hg=>?_) (fun hg=>?_)
    · have hi:i < s:=by simpa using hg
      conv=>whnf
      refine W_draw (pol:=polL) Γok mixes [(0,.pend),(1,.pend),(2,.pend),(3,.pend),(4,.pend),(5,.lock),(6,.pendO),(7,.lock)] 31 (by kernel_rfl) rfl ?_
      obtain⟨b0,off,b,r,rfl,hb,hr,hl,hO,hrd⟩:=(h3.up h2).row hi
      conv=>whnf
      refine dec_intro (by omega) ?_
      conv=>whnf
      refine⟨_,hrd _,?_⟩
      conv=>whnf
      refine (c74 _).val fun H3 hs3=>?_
      conv=>whnf
      refine dec_intro (by omega) ?_
      conv=>whnf
      refine⟨_,_,hO,?_,?_⟩
      · show _≤(cellsN r).length
        rw[cellsN_length,hl]
        simp only[Int.toNat_natCast,List.length_cons,List.length_nil]
        omega
      conv=>whnf
      refine⟨(i+1,H3,_),⟨hi,h2.trans hs3,h3.set hb hr hi oneN⟩,by dsimp only;omega,?_⟩
      conv=>whnf
      refine⟨rfl,rfl,?_⟩
      conv=>whnf
      repeat (refine⟨rfl,?_⟩;conv=>whnf)
      refine⟨by show En.v (.int .i64 (IntKind.i64.wrap (i+1)))=_;rw[wrap_id (by omega) (by omega)];rfl,?_⟩
      conv=>whnf
      repeat (refine⟨rfl,?_⟩;conv=>whnf)
      exact trivial
    · conv=>whnf
      have hi:i=s:=by simp at hg;omega
      subst hi
      exact⟨_,bs,rfl,h3.up h2⟩
theorem c20h (n : Nat) (hn:n≤6) (H:PH):Cl Tryz.prog 42 [.int .i64 n] H emp fun r H' _=>∃ u,r=.tuple #[u,.int .i64 0]∧MatH H' u (idM (2 ^ n) (2 ^ n)):=
  (c20 n hn H).repart fun _ _ _ _ hd ⟨u,_,h1,h⟩=>⟨_,_,.all hd,u,h1,h.mat hd⟩
end Go.Proofs.YtgbhgfdgifkdhaaGreat

namespace Go.Proofs.YtgbhgfdgifkdhaaGreat
open Go.Proofs.YtgbhgfdgifkdhaaGreat.X Go.Proofs.YtgbhgfdgifkdhaaGreat.X.PH
set_option maxRecDepth 100000
theorem c148 (x : Int) (q:Bool) (H:PH) (b:Nat) (f:Value) (t:TypeId) (hb:H b=some (.cells ⟨[f]⟩ t (0,0))) (hf:Does Tryz.prog H f [.int .i64 x] fun r _=>r=.bool q) :
    Cl Tryz.prog 199 [.int .i64 x,.pointer (some ⟨b,0,none⟩)] H emp fun r _ _=>r=.bool (!q):=by
  refine Cl_of (pol:=polL) Γok Tryz.func199 (by kernel_rfl) rfl ?_
  conv=>whnf
  refine⟨_,Rd.whole hb,?_⟩
  conv=>whnf
  refine hf.use fun r H' hs hr=>?_
  subst hr
  conv=>whnf
theorem c76 (xs : List Int) (p:Int→Bool) (H:PH) (v:Value) (fn:Fn) (first cap:Array Value) (hv:IntsH H v xs) (hf:∀ x∈xs,Does Tryz.prog H (.func fn first cap) [.int .i64 x] fun r _=>r=.bool (p x)) (hlen:xs.length < 9223372036854775808) :
    Cl Tryz.prog 108 [v,.func fn first cap] H emp fun r _ _=>r=.bool (xs.all p):=by
  obtain⟨base,cp,rfl,hv'⟩:=id hv
  refine Cl_of (pol:=fun | 3=>.imm | _=>.loc) Γok Tryz.func108 (by kernel_rfl) rfl ?_
  conv=>whnf
  intro b hb hO
  conv=>whnf
  have hs:=sub_ins H (.cells ⟨[.func fn first cap]⟩ 135 (0,0)) hb
  refine (c147 xs (fun x=>!p x) _ _ _ (SlH.up hv hs) (fun x hx=>⟨199,[],[_],rfl,fun H' hs'=>?_⟩) hlen).val fun H' _=>?_
  · exact c148 x (p x) H' b (.func fn first cap) _ (hs' _ _ (ins_same _ _ _)) ((hf x hx).up (hs.trans hs'))
  · conv=>whnf
    congr 1
    simp[List.not_any_eq_all_not]
def inW (n w : Int):Bool:=decide (w ≥ 0) && decide (w < n)
theorem c77 (w n : Int) (H:PH) (b:Nat) (t:TypeId) (hb:H b=some (.cells ⟨[.int .i64 n]⟩ t (0,0))):Cl Tryz.prog 109 [.int .i64 w,.pointer (some ⟨b,0,none⟩)] H emp fun r _ _=>r=.bool (inW n w):=by
  refine Cl_of (pol:=polL) Γok Tryz.func109 (by kernel_rfl) rfl ?_
  conv=>whnf
  unfold inW
  refine if_intro (fun h=>?_) (fun h=>?_)
  · conv=>whnf
    refine⟨_,Rd.whole hb,?_⟩
    conv=>whnf
    rw[h]
    rfl
  · conv=>whnf
    rw[h]
    rfl
theorem c79 (m : List (List (P4 × Int))) (hm:0 < m.length) (H:PH) (v:Value) (hv:MatH H v m):Cl Tryz.prog 111 [v] H emp fun r _ _=>r=.bool ((m.length:Int) == (wideM m:Int)):=by
  obtain⟨base,cap,rfl⟩:=hv.sl
  refine Cl_of (pol:=polL) Γok Tryz.func111 (by kernel_rfl) rfl ?_
  conv=>whnf
  refine (c111 m hm _ _ hv).val fun H1 s1=>?_
  conv=>whnf
theorem c149 (xs : List Int) (x:Int) (hlen:xs.length < 9223372036854775808) (H:PH) (v:Value) (hv:IntsH H v xs):Cl Tryz.prog 200 [v,.int .i64 x] H emp fun r _ _=>∃ i:Int,r=.int .i64 i∧(decide (i ≥ 0)=xs.contains x):=by
  obtain⟨base,cap,rfl,_⟩:=id hv
  refine Cl_of (pol:=polL) Γok Tryz.func200 (by kernel_rfl) rfl ?_
  conv=>whnf
  refine W_loop (pol:=polL) Γok Nat (fun i=>i≤xs.length∧∀ y∈xs.take i,y ≠ x) (fun i=>xs.length - i) (fun i=>[(8,.v (.int .i64 i))]) (fun _=>[]) (fun _=>H) (fun _=>emp) ⟨0,⟨by simp,by simp⟩,rfl,rfl,?_⟩ ?_
  · conv=>whnf
    repeat (refine⟨rfl,?_⟩;conv=>whnf)
    exact trivial
  · rintro i ⟨h1,h2⟩
    conv=>whnf
    refine if_intro (fun h=>?_) (fun h=>?_)
    · have hi:i < xs.length:=by simpa using h
      obtain⟨b,off,rfl,hrd⟩:=hv.rd hi
      conv=>whnf
      refine dec_intro (by omega) ?_
      conv=>whnf
      refine⟨_,hrd _,?_⟩
      conv=>whnf
      refine if_intro (fun he=>?_) (fun he=>?_)
      · conv=>whnf
        have he:x=xs[i]:=by simpa using he
        refine⟨i,rfl,?_⟩
        have:xs.contains x=true:=by rw[List.contains_iff_mem,he];exact List.getElem_mem hi
        rw[this]
        simp
      · conv=>whnf
        have he:x ≠ xs[i]:=by simpa using he
        refine⟨i+1,⟨hi,fun y hy=>?_⟩,by omega,?_⟩
        · rw[List.take_succ_eq_append_getElem hi] at hy
          rcases List.mem_append.1 hy with hy | hy
          · exact h2 y hy
          · simp at hy;rw[hy];exact fun e=>he e.symm
        · conv=>whnf
          refine⟨rfl,rfl,?_⟩
          conv=>whnf
          repeat (refine⟨rfl,?_⟩;conv=>whnf)
          refine⟨by show En.v (.int .i64 (IntKind.i64.wrap (i+1)))=_;rw[wrap_id (by omega) (by omega)];rfl,?_⟩
          conv=>whnf
          repeat (refine⟨rfl,?_⟩;conv=>whnf)
          exact trivial
    · conv=>whnf
      have hi:i=xs.length:=by simp at h;omega
      subst hi
      rw[List.take_length] at h2
      refine⟨_,rfl,?_⟩
      have:xs.contains x=false:=by
        rw[← Bool.not_eq_true,List.contains_iff_mem]
        intro hx
        exact h2 x hx rfl
      rw[this]
      decide
theorem c78 (xs : List Int) (x:Int) (hlen:xs.length < 9223372036854775808) (H:PH) (v:Value) (hv:IntsH H v xs):Cl Tryz.prog 110 [v,.int .i64 x] H emp fun r _ _=>r=.bool (xs.contains x):=by
  refine Cl_of (pol:=polL) Γok Tryz.func110 (by kernel_rfl) rfl ?_
  conv=>whnf
  refine (c149 xs x hlen _ _ hv).use fun r H1 s1 hr=>?_
  obtain⟨_,i,rfl,hi⟩:=hr
  conv=>whnf
  rw[hi]
def andNotI (x y : Int):Int:=IntKind.i64.wrap (BitVec.ofInt IntKind.i64.bits x &&& ~~~BitVec.ofInt IntKind.i64.bits y).toNat
def andI (x y : Int):Int:=IntKind.i64.wrap (BitVec.ofInt IntKind.i64.bits x &&& BitVec.ofInt IntKind.i64.bits y).toNat
def orI (x y : Int):Int:=IntKind.i64.wrap (BitVec.ofInt IntKind.i64.bits x ||| BitVec.ofInt IntKind.i64.bits y).toNat
def shlI (x y : Int):Int:=IntKind.i64.wrap (x*2 ^ min y.toNat IntKind.i64.bits)
def shrI (x y : Int):Int:=x.fdiv (2 ^ min y.toNat IntKind.i64.bits)
def splitF (ws : List Int):Nat→Int→Int × Int
  | 0,k=>(0,k)
  | j+1,k=>(orI (splitF ws j (andNotI k (shlI 1 (ws.getD j 0)))).1 (shlI (andI (shrI k (ws.getD j 0)) 1) j),(splitF ws j (andNotI k (shlI 1 (ws.getD j 0)))).2)
theorem slice_pre (bs j cap : Nat):Value.slice (if cap=Int.toNat 0 then some ⟨bs,0,none⟩ else Option.map (fun x:Addr=>x.add (Int.toNat 0*1)) (some ⟨bs,0,none⟩)) ((j:Int).toNat - Int.toNat 0) (cap - Int.toNat 0)=.slice (some ⟨bs,0,none⟩) j cap:=by
  have e:Int.toNat 0=0:=rfl
  rw[e]
  split<;>simp[Addr.add]
theorem c80 (ws : List Int) (cap bs bf:Nat) (t t':TypeId) (fr:Nat × Nat):∀ (j:Nat) (k:Int) (H:PH),j≤ws.length→ws.length≤cap→ws.length < 100000→(∀ w∈ws,0≤w)→H bs=some (.cells ⟨ws.map fun w=>.int .i64 w⟩ t fr)→H bf=some (.cells ⟨[.func (.func 112) #[] #[.pointer (some ⟨bf,0,none⟩)]]⟩ t' (0,0)) →
    Cl Tryz.prog 112 [.int .i64 k,.slice (some ⟨bs,0,none⟩) j cap,.pointer (some ⟨bf,0,none⟩)] H emp fun r _ _=>r=.tuple #[.int .i64 (splitF ws j k).1,.int .i64 (splitF ws j k).2]
  | 0,k,H,_,_,_,_,_,_=>by
    refine Cl_of (pol:=polL) Γok Tryz.func112 (by kernel_rfl) rfl ?_
    conv=>whnf
    rfl
  | j+1,k,H,hj,hc,hl,hw,hbs,hbf=>by
    refine Cl_of (pol:=polL) Γok Tryz.func112 (by kernel_rfl) rfl ?_
    conv=>whnf
    refine W_draw (pol:=polL) Γok mixes [(0,.pendO),(1,.pendO),(2,.pendO),(3,.pendO),(4,.pendO),(5,.pendO),(6,.pendO),(7,.pendO),(8,.pendO),(9,.pendO),(10,.pendO),(11,.lock),(12,.pendO),(13,.pendO),(14,.pendO),(15,.pendO),(16,.pendO)] 44 (by kernel_rfl) rfl ?_
    conv=>whnf
    refine⟨_,Rd.whole hbf,?_⟩
    conv=>whnf
    have ej:IntKind.i64.wrap (((j+1:Nat):Int) - 1)=(j:Int):=(wrap_id (by omega) (by omega)).trans (by omega)
    rw[ej]
    conv=>whnf
    refine dec_intro (by omega) ?_
    conv=>whnf
    have hwj:=hw ws[j] (List.getElem_mem (by omega))
    refine⟨[.int .i64 ws[j]],⟨rfl,rfl,_,_,_,.inl hbs,?_⟩,?_⟩
    · have:j < ws.length:=by omega
      simp[List.drop_eq_getElem_cons,this]
    conv=>whnf
    refine dec_intro hwj ?_
    conv=>whnf
    refine dec_intro (by omega) ?_
    conv=>whnf
    rw[slice_pre]
    have hg:ws.getD j 0=ws[j]:=by
      have:j < ws.length:=by omega
      simp[List.getD_eq_getElem?_getD,this]
    refine (c80 ws cap bs bf t t' fr j (andNotI k (shlI 1 ws[j])) _ (by omega) hc hl hw hbs hbf).val fun H2 s2=>?_
    conv=>whnf
    refine dec_intro (by omega) ?_
    conv=>whnf
    refine⟨[.int .i64 ws[j]],⟨rfl,rfl,_,_,_,.inl (s2 _ _ hbs),?_⟩,?_⟩
    · have:j < ws.length:=by omega
      simp[List.drop_eq_getElem_cons,this]
    conv=>whnf
    refine dec_intro hwj ?_
    conv=>whnf
    have e:splitF ws (j+1) k=(orI (splitF ws j (andNotI k (shlI 1 ws[j]))).1 (shlI (andI (shrI k ws[j]) 1) j),(splitF ws j (andNotI k (shlI 1 ws[j]))).2):=by
      rw[← hg];rfl
    rw[e]
    rfl
def onAt (m : List (List (P4 × Int))) (ws:List Int) (i k:Nat):(P4 × Int) × Int:=
  if (splitF ws ws.length i).2 ≠ (splitF ws ws.length k).2 then ((P4.zero,0),0) else LeastF (entry m (splitF ws ws.length i).1.toNat (splitF ws ws.length k).1.toNat).1 (entry m (splitF ws ws.length i).1.toNat (splitF ws ws.length k).1.toNat).2
theorem c82 (m : List (List (P4 × Int))) (rm:Right m) (ws:List Int) (i k:Nat) (cap bs bf bo bm:Nat) (t t' t2 t3:TypeId) (fr:Nat × Nat) (H:PH) (v:Value) (hv:MatH H v m) (hcap:ws.length≤cap) (hl:ws.length < 100000) (hw:∀ w∈ws,0≤w)
    (hi:0≤(splitF ws ws.length i).1∧(splitF ws ws.length i).1 < m.length) (hk:0≤(splitF ws ws.length k).1∧(splitF ws ws.length k).1 < wideM m)
    (hbs:H bs=some (.cells ⟨ws.map fun w=>.int .i64 w⟩ t fr)) (hbf:H bf=some (.cells ⟨[.func (.func 112) #[] #[.pointer (some ⟨bf,0,none⟩)]]⟩ t' (0,0)))
    (hbo:H bo=some (.cells ⟨[.slice (some ⟨bs,0,none⟩) ws.length cap]⟩ t2 (0,0))) (hbm:H bm=some (.cells ⟨[v]⟩ t3 (0,0))) :
    Cl Tryz.prog 114 [place i k,.pointer (some ⟨bf,0,none⟩),.pointer (some ⟨bo,0,none⟩),.pointer (some ⟨bm,0,none⟩)] H emp fun r _ _=>r=ne (onAt m ws i k):=by
  refine Cl_of (pol:=polL) Γok Tryz.func114 (by kernel_rfl) rfl ?_
  conv=>whnf
  repeat (intro _;conv=>whnf)
  refine⟨_,Rd.whole hbf,?_⟩
  conv=>whnf
  refine⟨_,Rd.whole hbo,?_⟩
  conv=>whnf
  refine (c80 ws cap bs bf t t' fr ws.length i _ (Nat.le_refl _) hcap hl hw hbs hbf).val fun H1 s1=>?_
  conv=>whnf
  refine⟨_,Rd.whole (s1 _ _ hbf),?_⟩
  conv=>whnf
  refine⟨_,Rd.whole (s1 _ _ hbo),?_⟩
  conv=>whnf
  refine (c80 ws cap bs bf t t' fr ws.length k _ (Nat.le_refl _) hcap hl hw (s1 _ _ hbs) (s1 _ _ hbf)).val fun H2 s2=>?_
  conv=>whnf
  have ss:=s1.trans s2
  unfold onAt
  refine if_intro (fun h=>?_) (fun h=>?_)
  · conv=>whnf
    rw[if_pos (show (splitF ws ws.length i).2 ≠ (splitF ws ws.length k).2 by simpa using h)]
    rfl
  · rw[if_neg (show ¬ (splitF ws ws.length i).2 ≠ (splitF ws ws.length k).2 by simpa using h)]
    obtain⟨a,ha⟩:∃ a:Nat,(splitF ws ws.length i).1=a:=⟨(splitF ws ws.length i).1.toNat,by omega⟩
    obtain⟨b,hb⟩:∃ b:Nat,(splitF ws ws.length k).1=b:=⟨(splitF ws ws.length k).1.toNat,by omega⟩
    rw[ha] at hi
    rw[hb] at hk
    rw[ha,hb,Int.toNat_natCast,Int.toNat_natCast]
    conv=>whnf
    refine⟨_,Rd.whole (ss _ _ hbm),?_⟩
    conv=>whnf
    have h1:a < m.length:=by omega
    have h2:b < m[a].length:=by
      rw[rm.row _ (List.getElem_mem h1)]
      omega
    rw[entry_get h1 h2]
    refine (c84 m a b h1 h2 _ _ (hv.up ss)).val fun H3 s3=>?_
    conv=>whnf
    refine (c83 m[a][b].1 m[a][b].2 _).val fun H4 s4=>?_
    conv=>whnf
    rfl
theorem andI_one (x : Int):andI x 1=x % 2:=low_mod x
theorem orI_add {a b : Int} {j:Nat} (hj:j≤61) (ha:0≤a∧a < 2 ^ j) (hb:b=0∨b=1):orI a (shlI b j)=a+b*2 ^ j:=by
  obtain⟨n,rfl⟩:∃ n:Nat,a=n:=⟨a.toNat,by omega⟩
  have e2:(2:Int) ^ j=((2 ^ j:Nat):Int):=by simp
  rw[e2] at ha ⊢
  have hp:2 ^ j≤2 ^ 61:=Nat.pow_le_pow_right (by decide) hj
  have e:shlI b j=b*((2 ^ j:Nat):Int):=by
    unfold shlI
    have e3:min ((j:Int).toNat) IntKind.i64.bits=j:=by
      show min _ 64=j
      rw[Int.toNat_natCast,Nat.min_eq_left (by omega)]
    rw[e3,e2]
    generalize 2 ^ j=s at hp ⊢
    rcases hb with rfl | rfl
    · rw[Int.zero_mul];exact wrap_id (by omega) (by omega)
    · rw[Int.one_mul];exact wrap_id (by omega) (by omega)
  rw[e]
  have hn:n < 2 ^ j:=by omega
  have key:∀ s:Nat,2 ^ j=s→n < s→s≤2 ^ 61→orI n (b*(s:Int))=n+b*s:=by
    intro s hs h1 h2
    rcases hb with rfl | rfl
    · rw[Int.zero_mul,Int.add_zero]
      unfold orI
      have:(BitVec.ofInt IntKind.i64.bits (n:Int) ||| BitVec.ofInt IntKind.i64.bits 0).toNat=n:=by
        show (BitVec.ofInt 64 (n:Int) ||| BitVec.ofInt 64 0).toNat=n
        rw[BitVec.toNat_or,BitVec.toNat_ofInt,BitVec.toNat_ofInt]
        show ((n:Int) % 18446744073709551616).toNat ||| 0=n
        rw[Nat.or_zero]
        omega
      rw[this]
      exact wrap_id (by omega) (by omega)
    · rw[Int.one_mul]
      unfold orI
      have:(BitVec.ofInt IntKind.i64.bits (n:Int) ||| BitVec.ofInt IntKind.i64.bits (s:Int)).toNat=n+s:=by
        show (BitVec.ofInt 64 (n:Int) ||| BitVec.ofInt 64 (s:Int)).toNat=n+s
        rw[BitVec.toNat_or,BitVec.toNat_ofInt,BitVec.toNat_ofInt]
        show ((n:Int) % 18446744073709551616).toNat ||| ((s:Int) % 18446744073709551616).toNat=n+s
        rw[show ((n:Int) % 18446744073709551616).toNat=n by omega,show ((s:Int) % 18446744073709551616).toNat=s by omega]
        have:=Nat.two_pow_add_eq_or_of_lt (i:=j) (b:=n) (by omega) 1
        rw[Nat.mul_one,hs] at this
        rw[Nat.or_comm,← this,Nat.add_comm]
      rw[this]
      exact (wrap_id (by omega) (by omega)).trans (by omega)
  exact key _ rfl hn hp
theorem splitF_bound (ws : List Int):∀ (j:Nat) (k:Int),j≤62→0≤(splitF ws j k).1∧(splitF ws j k).1 < 2 ^ j
  | 0,k,_=>by simp[splitF]
  | j+1,k,hj=>by
    have ih:=splitF_bound ws j (andNotI k (shlI 1 (ws.getD j 0))) (by omega)
    simp only[splitF]
    have hb:andI (shrI k (ws.getD j 0)) 1=0∨andI (shrI k (ws.getD j 0)) 1=1:=by
      rw[andI_one];omega
    rw[orI_add (by omega) ih hb]
    have e:(2:Int) ^ (j+1)=2*2 ^ j:=by rw[Int.pow_succ];omega
    rw[e]
    generalize (2:Int) ^ j=s at ih ⊢
    rcases hb with h | h<;>rw[h]<;>omega
end Go.Proofs.YtgbhgfdgifkdhaaGreat

namespace Go.Proofs.YtgbhgfdgifkdhaaGreat
open Go.Proofs.YtgbhgfdgifkdhaaGreat.X Go.Proofs.YtgbhgfdgifkdhaaGreat.X.PH
set_option maxRecDepth 100000
def twiceF (ws : List Int):Bool:=(List.range ws.length).any fun i=>(ws.take i).contains (ws.getD i 0)
def onErr (m : List (List (P4 × Int))) (ws:List Int) (n:Int):Int:=
  if checkMF m ≠ 0 then checkMF m else if (decide (n < 0) || decide (n > 6))=true then 3 else if ws.all (inW n)=false then 1 else if twiceF ws=true then 5 else if ((m.length:Int) == (wideM m:Int))=false∨(m.length:Int) ≠ shlI 1 ws.length then 7 else 0
def OnM (m : List (List (P4 × Int))) (ws:List Int) (n:Int) (r:Value) (M:PH):Prop:=
  (onErr m ws n ≠ 0∧r=.tuple #[.slice none 0 0,.int .i64 (onErr m ws n)])∨(onErr m ws n=0∧MadeE (onAt m ws) (2 ^ n.toNat) (2 ^ n.toNat) r M)
theorem ints_pre {H : PH} {bs:Nat} {ws:List Int} {t:TypeId} {fr:Nat × Nat} (h:H bs=some (.cells ⟨ws.map fun w=>.int .i64 w⟩ t fr)) {i cap:Nat} (hi:i≤ws.length):IntsH H (.slice (some ⟨bs,0,none⟩) i cap) (ws.take i):=by
  refine⟨some ⟨bs,0,none⟩,cap,by rw[List.length_take,Nat.min_eq_left hi],.inr ⟨bs,0,_,_,_,rfl,h,?_⟩⟩
  simp[Nat.min_eq_left hi,List.map_take]
theorem IntsH.whole {H : PH} {base:Option Addr} {n cap:Nat} {ws:List Int} (h:IntsH H (.slice base n cap) ws):(base=none→ws.length=0)∧∀ O a,base=some a→0 < ws.length→Rd H O a (ws.length*1) (ws.map fun w=>.int .i64 w):=by
  obtain⟨_,_,hv,h⟩:=h
  cases hv
  rcases h with⟨h,_⟩ | ⟨b,off,c,t,fr,h1,h2,h3⟩
  · exact⟨fun _=>h,fun O a _ hp=>by omega⟩
  · refine⟨fun e=>(by rw[e] at h1;cases h1),fun O a ha _=>?_⟩
    rw[ha] at h1
    cases h1
    refine⟨rfl,by simp,c,t,fr,.inl h2,?_⟩
    rw[Nat.mul_one]
    simpa using h3
theorem shl_len {L M : Nat} (h:(M:Int)=shlI 1 L) (h1:0 < M) (h2:M≤64):L≤60∧M=2 ^ L:=by
  by_cases hL:L≤60
  · refine⟨hL,?_⟩
    have:=shl1 hL
    unfold shlI at h
    rw[this] at h
    exact Int.ofNat_inj.1 h
  · exfalso
    unfold shlI at h
    have e:min ((L:Int).toNat) IntKind.i64.bits=61∨min ((L:Int).toNat) IntKind.i64.bits=62∨min ((L:Int).toNat) IntKind.i64.bits=63∨min ((L:Int).toNat) IntKind.i64.bits=64:=by
      show min _ 64=61∨min _ 64=62∨min _ 64=63∨min _ 64=64
      rw[Int.toNat_natCast]
      omega
    rcases e with e | e | e | e<;>rw[e,IntKind.wrap_i64] at h<;>omega
theorem W_pubAll {P : Program} {r:Option Nat} {c:Code} {env:List En} {loc:List (Option B)} {H O:PH} {K:Exit→S→Prop} (h:∀ H',Sub H H'→(∀ n o,O n=some o→H' n=some o)→W P r c ⟨env,loc,H',emp⟩ K):W P r c ⟨env,loc,H,O⟩ K:=
  W_pre fun hd=>⟨_,_,.all hd,h _ (fun n o hn=>by unfold un;rw[hn]) fun _ _ hn=>un_right hd hn⟩
theorem c22 (m : List (List (P4 × Int))) (hlm:m.length < 1000000) (ws:List Int) (hws:ws.length < 100000) (n:Int) (H:PH) (u v:Value) (hu:MatH H u m) (hv:IntsH H v ws):Cl Tryz.prog 44 [u,v,.int .i64 n] H emp fun r _ M'=>OnM m ws n r M':=by
  obtain⟨base,cap,rfl⟩:=hu.sl
  obtain⟨wb,wc,rfl,_⟩:=id hv
  refine Cl_of (pol:=fun | 3=>.imm | 5=>.imm | 30=>.own | 9=>.own | 12=>.own | _=>.loc) Γok Tryz.func44 (by kernel_rfl) rfl ?_
  conv=>whnf
  intro bm hbm _
  conv=>whnf
  intro bn hbn _
  conv=>whnf
  have s1:=sub_ins H (.cells ⟨[.slice base m.length cap]⟩ 23 (0,0)) hbm
  have s2:=sub_ins _ (.cells ⟨[.int .i64 n]⟩ 3 (0,0)) hbn
  have hu2:=(hu.up s1).up s2
  have hv2:=IntsH.up (IntsH.up hv s1) s2
  refine (c29 m _ _ hlm hu2).val fun H2 s3=>?_
  conv=>whnf
  refine if_intro (fun he=>?_) (fun he=>?_)
  · conv=>whnf
    have he:checkMF m ≠ 0:=by simpa using he
    have e:onErr m ws n=checkMF m:=by unfold onErr;rw[if_pos he]
    exact .inl ⟨by rw[e];exact he,by rw[e]⟩
  have he:checkMF m=0:=by simpa using he
  have rm:=right_of he
  conv=>whnf
  have err3:(decide (n < 0) || decide (n > 6))=true→onErr m ws n=3:=fun h=>by
    unfold onErr;rw[if_neg (by simpa using he),if_pos h]
  refine if_intro (fun h1=>?_) (fun h1=>?_)
  · conv=>whnf
    have e:=err3 (by rw[h1];rfl)
    exact .inl ⟨by rw[e];decide,by rw[e]⟩
  conv=>whnf
  refine if_intro (fun h2=>?_) (fun h2=>?_)
  · conv=>whnf
    have e:=err3 (by rw[h2,Bool.or_true])
    exact .inl ⟨by rw[e];decide,by rw[e]⟩
  have h12:(decide (n < 0) || decide (n > 6))=false:=by rw[h1,h2];rfl
  conv=>whnf
  refine (c76 ws (inW n) _ _ _ _ _ (IntsH.up hv2 s3) (fun x hx=>⟨109,[],[_],rfl,fun H' hs'=>c77 x n H' _ _ (hs' _ _ (s3 _ _ (ins_same _ _ _)))⟩) (by omega)).val fun H3 s4=>?_
  conv=>whnf
  refine if_intro (fun h3=>?_) (fun h3=>?_)
  · conv=>whnf
    have h3:ws.all (inW n)=false:=by
      cases e:ws.all (inW n) with
      | false=>rfl
      | true=>rw[e] at h3;cases h3
    have e:onErr m ws n=1:=by unfold onErr;rw[if_neg (by simpa using he),if_neg (by rw[h12];simp),if_pos h3]
    exact .inl ⟨by rw[e];decide,by rw[e]⟩
  have h3:ws.all (inW n)=true:=by
    cases e:ws.all (inW n) with
    | true=>rfl
    | false=>rw[e] at h3;cases h3
  conv=>whnf
  refine dec_intro (Int.le_refl _) ?_
  conv=>whnf
  refine dec_intro (by omega) ?_
  conv=>whnf
  refine dec_intro (by omega) ?_
  conv=>whnf
  intro bw hbw _
  conv=>whnf
  intro bo hbo hOo
  conv=>whnf
  have hne:bw ≠ bo:=fun e=>by subst e;rw[ins_same] at hOo;cases hOo
  refine⟨_,_,ins_same _ _ _,by simp,?_⟩
  conv=>whnf
  refine⟨_,⟨rfl,rfl,_,_,_,.inr (ins_same _ _ _),rfl⟩,?_⟩
  conv=>whnf
  have hv3:=IntsH.up (IntsH.up hv2 s3) s4
  unfold copyK
  refine⟨some ⟨bw,0,none⟩,ws.length,ws.length,wb,ws.length,wc,ws.map fun w=>.int .i64 w,rfl,rfl,by simp,by simp[Value.oneCell'],(IntsH.whole hv3).1,fun a ha hp=>?_,fun h=>(by cases h),fun a ha=>⟨bw,0,(List.replicate ws.length [Value.int .i64 0]).flatten,3,(by cases ha;rfl),(ins_ne _ _ hne).trans ((ins_ne _ _ hne).trans (ins_same _ _ _)),by simp,?_⟩⟩
  · rw[Nat.min_self] at hp ⊢
    exact (IntsH.whole hv3).2 _ a ha hp
  have ec:(List.replicate ws.length [Value.int .i64 0]).flatten.take 0++(ws.map fun w=>Value.int .i64 w)++(List.replicate ws.length [Value.int .i64 0]).flatten.drop (0+min ws.length ws.length*1)=ws.map fun w=>Value.int .i64 w:=by
    rw[Nat.min_self,List.take_zero,List.nil_append,List.drop_of_length_le (by simp),List.append_nil]
  rw[ec]
  conv=>whnf
  refine⟨[.slice (some ⟨bw,0,none⟩) ws.length ws.length],⟨rfl,rfl,_,_,_,.inr ((ins_ne _ _ hne.symm).trans (ins_same _ _ _)),rfl⟩,?_⟩
  conv=>whnf
  refine W_pubAll fun H4 s5 hall=>?_
  have hbw4:=hall bw _ (ins_same _ _ _)
  have hbo4:=hall bo _ ((ins_ne _ _ hne.symm).trans (ins_same _ _ _))
  clear hall
  have hnn:∀ q:Nat,q < ws.length→ws.getD q 0=ws[q]!:=fun q hq=>by simp[List.getD_eq_getElem?_getD,hq]
  refine W_loop (pol:=polL) Γok (Nat × PH) (fun i=>i.1≤ws.length∧Sub H4 i.2∧∀ q,q < i.1→(ws.take q).contains (ws.getD q 0)=false) (fun i=>ws.length - i.1) (fun i=>[(36,.v (.int .i64 i.1))]) (fun _=>[]) (fun i=>i.2) (fun _=>emp) ⟨(0,H4),⟨by simp,Sub.refl _,by simp⟩,rfl,rfl,?_⟩ ?_
  · conv=>whnf
    repeat (refine⟨rfl,?_⟩;conv=>whnf)
    exact trivial
  · rintro ⟨i,H'⟩ ⟨k1,k2,k3⟩
    dsimp only at k1 k2 k3
    conv=>whnf
    refine if_intro (fun h=>?_) (fun h=>?_)
    · have hi:i < ws.length:=by simpa using h
      have hg:ws.getD i 0=ws[i]:=by simp[List.getD_eq_getElem?_getD,hi]
      conv=>whnf
      refine dec_intro (by omega) ?_
      conv=>whnf
      refine⟨[.int .i64 ws[i]],⟨rfl,rfl,_,_,_,.inl (k2 _ _ hbw4),?_⟩,?_⟩
      · simp[List.drop_eq_getElem_cons,hi]
      conv=>whnf
      refine⟨_,Rd.whole (k2 _ _ hbo4),?_⟩
      conv=>whnf
      refine dec_intro (by omega) ?_
      conv=>whnf
      rw[slice_pre]
      refine (c78 (ws.take i) ws[i] (by simp;omega) _ _ (ints_pre (k2 _ _ hbw4) (by omega))).val fun H5 s6=>?_
      conv=>whnf
      refine if_intro (fun hc=>?_) (fun hc=>?_)
      · conv=>whnf
        have ht:twiceF ws=true:=List.any_eq_true.2 ⟨i,List.mem_range.2 hi,by rw[hg];exact hc⟩
        have e:onErr m ws n=5:=by unfold onErr;rw[if_neg (by simpa using he),if_neg (by rw[h12];simp),if_neg (by rw[h3];simp),if_pos ht]
        exact .inl ⟨by rw[e];decide,by rw[e]⟩
      · conv=>whnf
        refine⟨(i+1,H5),⟨hi,k2.trans s6,fun q hq=>?_⟩,by dsimp only;omega,?_⟩
        · rcases Nat.lt_or_ge q i with h | h
          · exact k3 q h
          · rw[show q=i by omega,hg];exact hc
        conv=>whnf
        refine⟨rfl,rfl,?_⟩
        conv=>whnf
        repeat (refine⟨rfl,?_⟩;conv=>whnf)
        refine⟨by show En.v (.int .i64 (IntKind.i64.wrap (i+1)))=_;rw[wrap_id (by omega) (by omega)];rfl,?_⟩
        conv=>whnf
        repeat (refine⟨rfl,?_⟩;conv=>whnf)
        exact trivial
    · have hi:i=ws.length:=by simp at h;omega
      have ht:twiceF ws=false:=by
        unfold twiceF
        rw[List.any_eq_false]
        intro q hq
        rw[k3 q (by rw[hi];exact List.mem_range.1 hq)]
        simp
      conv=>whnf
      have e7:((m.length:Int) == (wideM m:Int))=false∨(m.length:Int) ≠ shlI 1 ws.length→onErr m ws n=7:=fun h=>by
        unfold onErr
        rw[if_neg (by simpa using he),if_neg (by rw[h12];simp),if_neg (by rw[h3];simp),if_neg (by rw[ht];simp),if_pos h]
      have hu4:=(((hu2.up s3).up s4).up s5).up k2
      refine W_draw (pol:=polL) Γok mixes [(0,.pendO),(1,.lock),(2,.pendO),(3,.pendO),(4,.pendO),(5,.pendO),(6,.pendO),(7,.pendO),(8,.pendO),(9,.pendO),(10,.pendO)] 67 (by kernel_rfl) rfl ?_
      conv=>whnf
      refine (c79 m rm.pos _ _ hu4).val fun H5 s6=>?_
      conv=>whnf
      refine if_intro (fun hq=>?_) (fun hq=>?_)
      · conv=>whnf
        have e:=e7 (.inl (by simpa using hq))
        exact .inl ⟨by rw[e];decide,by rw[e]⟩
      · have hq:((m.length:Int) == (wideM m:Int))=true:=by simpa using hq
        conv=>whnf
        refine⟨_,Rd.whole (s6 _ _ (k2 _ _ hbo4)),?_⟩
        conv=>whnf
        refine if_intro (fun hl=>?_) (fun hl=>?_)
        · conv=>whnf
          have e:=e7 (.inr (by simpa[shlI] using hl))
          exact .inl ⟨by rw[e];decide,by rw[e]⟩
        have hl:(m.length:Int)=shlI 1 ws.length:=by simpa[shlI] using hl
        have hnot:onErr m ws n=0:=by
          unfold onErr
          rw[if_neg (by simpa using he),if_neg (by rw[h12];simp),if_neg (by rw[h3];simp),if_neg (by rw[ht];simp),if_neg]
          rw[hq]
          simp[hl]
        obtain⟨l1,l2⟩:=shl_len hl rm.pos rm.le
        obtain⟨N,rfl⟩:∃ N:Nat,n=(N:Int):=⟨n.toNat,by simp at h1;omega⟩
        have hN:N≤6:=by simp at h2;omega
        have hNp:2 ^ N < 1000000:=by
          have:2 ^ N≤2 ^ 6:=Nat.pow_le_pow_right (by decide) hN
          omega
        conv=>whnf
        intro bf hbf hOf
        conv=>whnf
        refine⟨_,_,ins_same _ _ _,by simp,?_⟩
        conv=>whnf
        refine W_draw (pol:=polL) Γok mixes [(0,.pendO),(1,.pendO),(2,.pendO),(3,.pendO),(4,.pendO),(5,.lock),(6,.pendO),(7,.pendO),(8,.pendO),(9,.pendO)] 67 (by kernel_rfl) rfl ?_
        conv=>whnf
        rw[shl1 (by omega)]
        have hw:∀ w∈ws,0≤w:=fun w hw=>by
          have:=List.all_eq_true.1 h3 w hw
          unfold inW at this
          simp at this
          exact this.1
        have hwm:wideM m=m.length:=by simp at hq;omega
        have hs7:=sub_ins H5 (.cells ⟨[.func (.func 112) #[] #[.pointer (some ⟨bf,0,none⟩)]]⟩ 127 (0,0)) hbf
        have bnd:∀ k:Nat,0≤(splitF ws ws.length k).1∧(splitF ws ws.length k).1 < m.length:=fun k=>by
          have:=splitF_bound ws ws.length k (by omega)
          refine⟨this.1,?_⟩
          have e:((m.length:Nat):Int)=2 ^ ws.length:=by rw[l2];simp
          rw[e]
          exact this.2
        have hc:=c81 (onAt m ws) (2 ^ N) (2 ^ N) hNp hNp (ins H5 bf (.cells ⟨[.func (.func 112) #[] #[.pointer (some ⟨bf,0,none⟩)]]⟩ 127 (0,0))) (.func 114) #[] #[.pointer (some ⟨bf,0,none⟩),.pointer (some ⟨bo,0,none⟩),.pointer (some ⟨bm,0,none⟩)] (fun i k hi hk=>⟨114,[],[_,_,_],rfl,fun H' hs'=>
          c82 m rm ws i k ws.length bw bf bo bm _ _ _ _ _ H' _ (((hu4.up s6).up hs7).up hs') (Nat.le_refl _) hws hw (bnd i) (by rw[hwm];exact bnd k) (hs' _ _ (hs7 _ _ (s6 _ _ (k2 _ _ hbw4)))) (hs' _ _ (ins_same _ _ _)) (hs' _ _ (hs7 _ _ (s6 _ _ (k2 _ _ hbo4)))) (hs' _ _ (hs7 _ _ (s6 _ _ (k2 _ _ (s5 _ _ (s4 _ _ (s3 _ _ (s2 _ _ (ins_same _ _ _)))))))))⟩)
        refine Cl.pub (ins_same _ _ _) (fun _=>?_) hc.ent
        rw[show del (ins (ins emp bf _) bf _) bf=emp by funext n;unfold del ins emp;by_cases e:n=bf<;>simp[e]]
        refine hc.mono fun r H6 M6 _ hr=>?_
        rcases hr with⟨g1,rfl⟩ | ⟨g1,u,rfl,g2⟩
        · conv=>whnf
          exact .inr ⟨hnot,.inl ⟨g1,rfl⟩⟩
        · conv=>whnf
          exact .inr ⟨hnot,.inr ⟨g1,u,rfl,g2⟩⟩
end Go.Proofs.YtgbhgfdgifkdhaaGreat

namespace Go.Proofs.YtgbhgfdgifkdhaaGreat
open Go.Proofs.YtgbhgfdgifkdhaaGreat.X Go.Proofs.YtgbhgfdgifkdhaaGreat.X.PH
set_option maxRecDepth 100000
theorem ints_lit {H : PH} {b:Nat} {l:List Int} {n:Nat} (hb:H b=some (.cells ⟨l.map fun x=>.int .i64 x⟩ 3 (0,0))) (hn:n=l.length:=by rfl):IntsH H (.slice (some ⟨b,0,none⟩) n n) l:=by
  subst hn
  exact⟨_,_,rfl,.inr ⟨b,0,_,_,_,rfl,hb,List.take_of_length_le (by simp)⟩⟩
theorem intss1 {H : PH} {b:Nat} {u1:Value} {l1:List Int} (hb:H b=some (.cells ⟨[u1]⟩ 28 (0,0))) (h1:IntsH H u1 l1):IntssH H (.slice (some ⟨b,0,none⟩) 1 1) [l1]:=by
  refine⟨[u1],rfl,⟨_,_,rfl,.inr ⟨b,0,_,_,_,rfl,hb,rfl⟩⟩,fun i l u hl hu=>?_⟩
  match i,hl,hu with
  | 0,hl,hu=>cases hl;cases hu;exact h1
theorem intss2 {H : PH} {b:Nat} {u1 u2:Value} {l1 l2:List Int} (hb:H b=some (.cells ⟨[u1,u2]⟩ 28 (0,0))) (h1:IntsH H u1 l1) (h2:IntsH H u2 l2):IntssH H (.slice (some ⟨b,0,none⟩) 2 2) [l1,l2]:=by
  refine⟨[u1,u2],rfl,⟨_,_,rfl,.inr ⟨b,0,_,_,_,rfl,hb,rfl⟩⟩,fun i l u hl hu=>?_⟩
  match i,hl,hu with
  | 0,hl,hu=>cases hl;cases hu;exact h1
  | 1,hl,hu=>cases hl;cases hu;exact h2
theorem intss4 {H : PH} {b:Nat} {u1 u2 u3 u4:Value} {l1 l2 l3 l4:List Int} (hb:H b=some (.cells ⟨[u1,u2,u3,u4]⟩ 28 (0,0))) (h1:IntsH H u1 l1) (h2:IntsH H u2 l2) (h3:IntsH H u3 l3) (h4:IntsH H u4 l4):IntssH H (.slice (some ⟨b,0,none⟩) 4 4) [l1,l2,l3,l4]:=by
  refine⟨[u1,u2,u3,u4],rfl,⟨_,_,rfl,.inr ⟨b,0,_,_,_,rfl,hb,rfl⟩⟩,fun i l u hl hu=>?_⟩
  match i,hl,hu with
  | 0,hl,hu=>cases hl;cases hu;exact h1
  | 1,hl,hu=>cases hl;cases hu;exact h2
  | 2,hl,hu=>cases hl;cases hu;exact h3
  | 3,hl,hu=>cases hl;cases hu;exact h4
theorem sing_num {H : PH} {b:Nat} {x:P4 × Int} (hb:H b=some (.cells ⟨cellsOf x⟩ 33 (0,0))):NumH H (.slice (some ⟨b,0,none⟩) 1 1) [x]:=⟨_,_,rfl,.inr ⟨b,0,_,_,_,rfl,hb,rfl⟩⟩
theorem c40c {m n : List (List (P4 × Int))} (k:List (List (P4 × Int))) (h1:errsM [m,n]=0) (h2:wideM m=n.length) (h3:firstErr (errsE (mulAt m n) m.length (wideM n))=0) (h4:fills (mulAt m n) m.length (wideM n) (m.length*wideM n)=k) (H:PH) (u v:Value) (hu:MatH H u m) (hv:MatH H v n) :
    Cl Tryz.prog 28 [u,v] H emp fun r H' _=>∃ w,r=.tuple #[w,.int .i64 0]∧MatH H' w k:=by
  obtain⟨rm,rn⟩:=rights_of h1
  refine (c40 m n (by have:=rm.le;omega) (by have:=rn.le;omega) H u v hu hv).repart fun r H' M' _ hd hr=>?_
  rcases hr with⟨h,_⟩ | ⟨_,h,_⟩ | ⟨_,_,h⟩
  · exact absurd h1 h
  · exact absurd h2 h
  · rcases h with⟨h,_⟩ | ⟨_,w,h5,h6⟩
    · exact absurd h3 h
    · rw[h4] at h6
      exact⟨_,_,.all hd,w,h5,h6.share hd⟩
theorem c41c {m n : List (List (P4 × Int))} (k:List (List (P4 × Int))) (h1:errsM [m,n]=0) (h2:(sizedF ((m.length*n.length:Nat):Int) && sizedF ((wideM m*wideM n:Nat):Int))=true) (h3:firstErr (errsE (kronAt m n) (m.length*n.length) (wideM m*wideM n))=0) (h4:fills (kronAt m n) (m.length*n.length) (wideM m*wideM n) ((m.length*n.length)*(wideM m*wideM n))=k) (H:PH) (u v:Value) (hu:MatH H u m) (hv:MatH H v n) :
    Cl Tryz.prog 55 [u,v] H emp fun r H' _=>∃ w,r=.tuple #[w,.int .i64 0]∧MatH H' w k:=by
  obtain⟨rm,rn⟩:=rights_of h1
  refine (c41 m n (by have:=rm.le;omega) (by have:=rn.le;omega) H u v hu hv).repart fun r H' M' _ hd hr=>?_
  rcases hr with⟨h,_⟩ | ⟨_,h,_⟩ | ⟨_,_,h⟩
  · exact absurd h1 h
  · rw[h2] at h;cases h
  · rcases h with⟨h,_⟩ | ⟨_,w,h5,h6⟩
    · exact absurd h3 h
    · rw[h4] at h6
      exact⟨_,_,.all hd,w,h5,h6.share hd⟩
theorem c34c (m n : List (List (P4 × Int))) (a b:Int) (h:PhaseF m n=(a,b)) (hlm:m.length < 1000000) (hln:n.length < 1000000) (H:PH) (u v:Value) (hu:MatH H u m) (hv:MatH H v n):Cl Tryz.prog 32 [u,v] H emp fun r _ _=>r=.tuple #[.int .i64 a,.int .i64 b]:=
  (c34 m n hlm hln H u v hu hv).mono fun r _ _ _ hr=>by rw[hr,h]
theorem c22c (m : List (List (P4 × Int))) (ws:List Int) (n:Int) (k:List (List (P4 × Int))) (hlm:m.length < 1000000) (hws:ws.length < 100000) (h1:onErr m ws n=0) (h3:firstErr (errsE (onAt m ws) (2 ^ n.toNat) (2 ^ n.toNat))=0) (h4:fills (onAt m ws) (2 ^ n.toNat) (2 ^ n.toNat) (2 ^ n.toNat*2 ^ n.toNat)=k) (H:PH) (u v:Value) (hu:MatH H u m) (hv:IntsH H v ws) :
    Cl Tryz.prog 44 [u,v,.int .i64 n] H emp fun r H' _=>∃ w,r=.tuple #[w,.int .i64 0]∧MatH H' w k:=by
  refine (c22 m hlm ws hws n H u v hu hv).repart fun r H' M' _ hd hr=>?_
  rcases hr with⟨h,_⟩ | ⟨_,h⟩
  · exact absurd h1 h
  · rcases h with⟨h,_⟩ | ⟨_,w,h5,h6⟩
    · exact absurd h3 h
    · rw[h4] at h6
      exact⟨_,_,.all hd,w,h5,h6.share hd⟩
theorem c22e (m : List (List (P4 × Int))) (ws:List Int) (n:Int) (e:Int) (hlm:m.length < 1000000) (hws:ws.length < 100000) (h1:onErr m ws n=e) (he:e ≠ 0) (H:PH) (u v:Value) (hu:MatH H u m) (hv:IntsH H v ws) :
    Cl Tryz.prog 44 [u,v,.int .i64 n] H emp fun r _ _=>r=.tuple #[.slice none 0 0,.int .i64 e]:=by
  refine (c22 m hlm ws hws n H u v hu hv).mono fun r H' M' _ hr=>?_
  rcases hr with⟨_,h⟩ | ⟨h,_⟩
  · rw[h,h1]
  · rw[h1] at h;exact absurd h he
theorem c47c (l k : List (P4 × Int)) (x:P4 × Int) (e:Int) (h:InnerF l k=(x,e)) (hl:l.length < 1000000) (hk:k.length < 1000000) (H:PH) (u v:Value) (hu:NumH H u l) (hv:NumH H v k):Cl Tryz.prog 61 [u,v] H emp fun r _ _=>r=ne (x,e):=
  (c47 l k hl hk H u v hu hv).mono fun r _ _ _ hr=>by rw[hr,h]
theorem c52c (l m : List (List (P4 × Int))) (h:eqM l m=true) (hlen:l.length < 9223372036854775808) (hrow:∀ r∈l,r.length < 9223372036854775808) (H:PH) (u v:Value) (hu:MatH H u l) (hv:MatH H v m):Cl Tryz.prog 24 [u,v] H emp fun r _ _=>r=.bool true:=
  (c52 l m H u v hu hv hlen hrow).mono fun r _ _ _ hr=>by rw[hr,h]
theorem c29c (m : List (List (P4 × Int))) (e:Int) (h:checkMF m=e) (hlen:m.length < 1000000) (H:PH) (v:Value) (hv:MatH H v m):Cl Tryz.prog 66 [v] H emp fun r _ _=>r=.int .i64 e:=
  (c29 m H v hlen hv).mono fun r _ _ _ hr=>by rw[hr,h]
def numZ (a : Int):P4 × Int:=(⟨a,0,0,0⟩,0)
def oneL : List (List (P4 × Int)):=[[numZ 1,numZ 0],[numZ 0,numZ 1]]
def zxL : List (List (P4 × Int)):=[[numZ 0,numZ 1],[numZ (-1),numZ 0]]
def aL : List (List (P4 × Int)):=[[numZ 1,numZ 0,numZ 0,numZ 0],[numZ 0,numZ 1,numZ 0,numZ 0],[numZ 0,numZ 0,numZ 0,numZ 1],[numZ 0,numZ 0,numZ 1,numZ 0]]
def bL : List (List (P4 × Int)):=[[numZ 3,numZ 6],[numZ 4,numZ 8]]
def polA : Tmp→Pol:=fun | 73=>.imm | 78=>.imm | 79=>.imm | 81=>.imm | 82=>.imm | 83=>.imm | 91=>.imm | 94=>.imm | 100=>.imm | 106=>.imm | 180=>.imm | 181=>.imm | 182=>.imm | 183=>.imm | 184=>.imm | 190=>.imm | 191=>.imm | 192=>.imm | 199=>.imm | 201=>.imm | 202=>.imm | _=>.loc
theorem c14 (H : PH):Cl Tryz.prog 15 [] H emp fun r _ _=>r=.bool true:=by
  refine Cl_of (pol:=polA) Γok Tryz.func15 (by kernel_rfl) rfl ?_
  conv=>whnf
  refine (c21 4 (by decide) (by decide) _).use fun r H1 s1 hr=>?_
  obtain⟨_,u1,rfl,hh⟩:=hr
  conv=>whnf
  refine (c40c oneL (by kernel_rfl) (by kernel_rfl) (by kernel_rfl) (by kernel_rfl) _ _ _ hh hh).use fun r H2 s2 hr=>?_
  replace hh:=hh.up s2
  obtain⟨_,u2,rfl,h1⟩:=hr
  conv=>whnf
  refine (c20h 1 (by decide) _).use fun r H3 s3 hr=>?_
  replace hh:=hh.up s3
  replace h1:=h1.up s3
  obtain⟨_,u3,rfl,hid⟩:=hr
  conv=>whnf
  refine (c21 1 (by decide) (by decide) _).use fun r H4 s4 hr=>?_
  replace hh:=hh.up s4
  replace h1:=h1.up s4
  replace hid:=hid.up s4
  obtain⟨_,u4,rfl,hx⟩:=hr
  conv=>whnf
  refine (c21 2 (by decide) (by decide) _).use fun r H5 s5 hr=>?_
  replace hh:=hh.up s5
  replace h1:=h1.up s5
  replace hid:=hid.up s5
  replace hx:=hx.up s5
  obtain⟨_,u5,rfl,hy⟩:=hr
  conv=>whnf
  refine (c21 3 (by decide) (by decide) _).use fun r H6 s6 hr=>?_
  replace hh:=hh.up s6
  replace h1:=h1.up s6
  replace hid:=hid.up s6
  replace hx:=hx.up s6
  replace hy:=hy.up s6
  obtain⟨_,u6,rfl,hz⟩:=hr
  conv=>whnf
  refine (c40c zxL (by kernel_rfl) (by kernel_rfl) (by kernel_rfl) (by kernel_rfl) _ _ _ hz hx).use fun r H7 s7 hr=>?_
  replace hh:=hh.up s7
  replace h1:=h1.up s7
  replace hid:=hid.up s7
  replace hx:=hx.up s7
  replace hy:=hy.up s7
  replace hz:=hz.up s7
  obtain⟨_,u7,rfl,hzx⟩:=hr
  conv=>whnf
  refine (c34c zxL (opM 2) 2 0 (by kernel_rfl) (by decide) (by decide) _ _ _ hzx hy).val fun H8 s8=>?_
  replace hh:=hh.up s8
  replace h1:=h1.up s8
  replace hid:=hid.up s8
  replace hx:=hx.up s8
  replace hy:=hy.up s8
  replace hz:=hz.up s8
  replace hzx:=hzx.up s8
  conv=>whnf
  refine (c21 9 (by decide) (by decide) _).use fun r H9 s9 hr=>?_
  replace hh:=hh.up s9
  replace h1:=h1.up s9
  replace hid:=hid.up s9
  replace hx:=hx.up s9
  replace hy:=hy.up s9
  replace hz:=hz.up s9
  replace hzx:=hzx.up s9
  obtain⟨_,u9,rfl,hcx⟩:=hr
  conv=>whnf
  intro q10 hq10 _
  obtain⟨H10,hH10⟩:∃ X,X=ins H9 q10 (.cells ⟨[.int .i64 1,.int .i64 0]⟩ 3 (0,0)):=⟨_,rfl⟩
  have s10:Sub H9 H10:=by rw[hH10];exact sub_ins _ _ hq10
  have k10:H10 q10=some (.cells ⟨[.int .i64 1,.int .i64 0]⟩ 3 (0,0)):=by rw[hH10];exact ins_same _ _ _
  replace hh:=hh.up s10
  replace h1:=h1.up s10
  replace hid:=hid.up s10
  replace hx:=hx.up s10
  replace hy:=hy.up s10
  replace hz:=hz.up s10
  replace hzx:=hzx.up s10
  replace hcx:=hcx.up s10
  conv=>whnf
  have hn10:IntsH H10 (.slice (some ⟨q10,0,none⟩) 2 2) [1,0]:=ints_lit k10
  refine (c22c (opM 9) [1,0] 2 aL (by decide) (by decide) (by kernel_rfl) (by kernel_rfl) (by kernel_rfl) _ _ _ (by have h:=hcx;rw[hH10] at h;exact h) (by have h:=hn10;rw[hH10] at h;exact h)).use fun r H11 s11 hr=>?_
  replace s11:Sub H10 H11:=by rw[hH10];exact s11
  replace hh:=hh.up s11
  replace h1:=h1.up s11
  replace hid:=hid.up s11
  replace hx:=hx.up s11
  replace hy:=hy.up s11
  replace hz:=hz.up s11
  replace hzx:=hzx.up s11
  replace hcx:=hcx.up s11
  replace hn10:=hn10.up s11
  obtain⟨_,u10,rfl,ha⟩:=hr
  conv=>whnf
  intro q12 hq12 _
  obtain⟨H12,hH12⟩:∃ X,X=ins H11 q12 (.cells ⟨[.int .i64 1,.int .i64 2]⟩ 3 (0,0)):=⟨_,rfl⟩
  have s12:Sub H11 H12:=by rw[hH12];exact sub_ins _ _ hq12
  have k12:H12 q12=some (.cells ⟨[.int .i64 1,.int .i64 2]⟩ 3 (0,0)):=by rw[hH12];exact ins_same _ _ _
  replace hh:=hh.up s12
  replace h1:=h1.up s12
  replace hid:=hid.up s12
  replace hx:=hx.up s12
  replace hy:=hy.up s12
  replace hz:=hz.up s12
  replace hzx:=hzx.up s12
  replace hcx:=hcx.up s12
  replace ha:=ha.up s12
  conv=>whnf
  have hn12:IntsH H12 (.slice (some ⟨q12,0,none⟩) 2 2) [1,2]:=ints_lit k12
  intro q13 hq13 _
  replace hq13:H12 q13=none:=by rw[hH12];exact hq13
  obtain⟨H13,hH13⟩:∃ X,X=ins H12 q13 (.cells ⟨[.slice (some ⟨q12,0,none⟩) 2 2]⟩ 28 (0,0)):=⟨_,rfl⟩
  have s13:Sub H12 H13:=by rw[hH13];exact sub_ins _ _ hq13
  have k13:H13 q13=some (.cells ⟨[.slice (some ⟨q12,0,none⟩) 2 2]⟩ 28 (0,0)):=by rw[hH13];exact ins_same _ _ _
  rw[hH12] at hH13
  replace hh:=hh.up s13
  replace h1:=h1.up s13
  replace hid:=hid.up s13
  replace hx:=hx.up s13
  replace hy:=hy.up s13
  replace hz:=hz.up s13
  replace hzx:=hzx.up s13
  replace hcx:=hcx.up s13
  replace ha:=ha.up s13
  replace hn12:=hn12.up s13
  conv=>whnf
  have hr13:IntssH H13 (.slice (some ⟨q13,0,none⟩) 1 1) [[1,2]]:=intss1 k13 hn12
  refine (c64' [[1,2]] (by decide) (by decide) _ _ (by have h:=hr13;rw[hH13] at h;exact h)).use fun r H14 s14 hr=>?_
  replace s14:Sub H13 H14:=by rw[hH13];exact s14
  replace hh:=hh.up s14
  replace h1:=h1.up s14
  replace hid:=hid.up s14
  replace hx:=hx.up s14
  replace hy:=hy.up s14
  replace hz:=hz.up s14
  replace hzx:=hzx.up s14
  replace hcx:=hcx.up s14
  replace ha:=ha.up s14
  obtain⟨_,hm1⟩:=hr
  conv=>whnf
  intro q15 hq15 _
  obtain⟨H15,hH15⟩:∃ X,X=ins H14 q15 (.cells ⟨[.int .i64 3]⟩ 3 (0,0)):=⟨_,rfl⟩
  have s15:Sub H14 H15:=by rw[hH15];exact sub_ins _ _ hq15
  have k15:H15 q15=some (.cells ⟨[.int .i64 3]⟩ 3 (0,0)):=by rw[hH15];exact ins_same _ _ _
  replace hh:=hh.up s15
  replace h1:=h1.up s15
  replace hid:=hid.up s15
  replace hx:=hx.up s15
  replace hy:=hy.up s15
  replace hz:=hz.up s15
  replace hzx:=hzx.up s15
  replace hcx:=hcx.up s15
  replace ha:=ha.up s15
  replace hm1:=hm1.up s15
  conv=>whnf
  have hn15:IntsH H15 (.slice (some ⟨q15,0,none⟩) 1 1) [3]:=ints_lit k15
  intro q16 hq16 _
  replace hq16:H15 q16=none:=by rw[hH15];exact hq16
  obtain⟨H16,hH16⟩:∃ X,X=ins H15 q16 (.cells ⟨[.int .i64 4]⟩ 3 (0,0)):=⟨_,rfl⟩
  have s16:Sub H15 H16:=by rw[hH16];exact sub_ins _ _ hq16
  have k16:H16 q16=some (.cells ⟨[.int .i64 4]⟩ 3 (0,0)):=by rw[hH16];exact ins_same _ _ _
  rw[hH15] at hH16
  replace hh:=hh.up s16
  replace h1:=h1.up s16
  replace hid:=hid.up s16
  replace hx:=hx.up s16
  replace hy:=hy.up s16
  replace hz:=hz.up s16
  replace hzx:=hzx.up s16
  replace hcx:=hcx.up s16
  replace ha:=ha.up s16
  replace hm1:=hm1.up s16
  replace hn15:=hn15.up s16
  conv=>whnf
  have hn16:IntsH H16 (.slice (some ⟨q16,0,none⟩) 1 1) [4]:=ints_lit k16
  intro q17 hq17 _
  replace hq17:H16 q17=none:=by rw[hH16];exact hq17
  obtain⟨H17,hH17⟩:∃ X,X=ins H16 q17 (.cells ⟨[.slice (some ⟨q15,0,none⟩) 1 1,.slice (some ⟨q16,0,none⟩) 1 1]⟩ 28 (0,0)):=⟨_,rfl⟩
  have s17:Sub H16 H17:=by rw[hH17];exact sub_ins _ _ hq17
  have k17:H17 q17=some (.cells ⟨[.slice (some ⟨q15,0,none⟩) 1 1,.slice (some ⟨q16,0,none⟩) 1 1]⟩ 28 (0,0)):=by rw[hH17];exact ins_same _ _ _
  rw[hH16] at hH17
  replace hh:=hh.up s17
  replace h1:=h1.up s17
  replace hid:=hid.up s17
  replace hx:=hx.up s17
  replace hy:=hy.up s17
  replace hz:=hz.up s17
  replace hzx:=hzx.up s17
  replace hcx:=hcx.up s17
  replace ha:=ha.up s17
  replace hm1:=hm1.up s17
  replace hn15:=hn15.up s17
  replace hn16:=hn16.up s17
  conv=>whnf
  have hr17:IntssH H17 (.slice (some ⟨q17,0,none⟩) 2 2) [[3],[4]]:=intss2 k17 hn15 hn16
  refine (c64' [[3],[4]] (by decide) (by decide) _ _ (by have h:=hr17;rw[hH17] at h;exact h)).use fun r H18 s18 hr=>?_
  replace s18:Sub H17 H18:=by rw[hH17];exact s18
  replace hh:=hh.up s18
  replace h1:=h1.up s18
  replace hid:=hid.up s18
  replace hx:=hx.up s18
  replace hy:=hy.up s18
  replace hz:=hz.up s18
  replace hzx:=hzx.up s18
  replace hcx:=hcx.up s18
  replace ha:=ha.up s18
  replace hm1:=hm1.up s18
  obtain⟨_,hm2⟩:=hr
  conv=>whnf
  obtain⟨mb1,mc1,rfl⟩:=hm1.sl
  obtain⟨mb2,mc2,rfl⟩:=hm2.sl
  refine (c41c bL (by kernel_rfl) (by kernel_rfl) (by kernel_rfl) (by kernel_rfl) _ _ _ hm1 hm2).use fun r H19 s19 hr=>?_
  replace hh:=hh.up s19
  replace h1:=h1.up s19
  replace hid:=hid.up s19
  replace hx:=hx.up s19
  replace hy:=hy.up s19
  replace hz:=hz.up s19
  replace hzx:=hzx.up s19
  replace hcx:=hcx.up s19
  replace ha:=ha.up s19
  replace hm1:=hm1.up s19
  replace hm2:=hm2.up s19
  obtain⟨_,u11,rfl,hb⟩:=hr
  conv=>whnf
  refine (c65 1 _).val fun H20 s20=>?_
  replace hh:=hh.up s20
  replace h1:=h1.up s20
  replace hid:=hid.up s20
  replace hx:=hx.up s20
  replace hy:=hy.up s20
  replace hz:=hz.up s20
  replace hzx:=hzx.up s20
  replace hcx:=hcx.up s20
  replace ha:=ha.up s20
  replace hm1:=hm1.up s20
  replace hm2:=hm2.up s20
  replace hb:=hb.up s20
  conv=>whnf
  intro q21 hq21 _
  obtain⟨H21,hH21⟩:∃ X,X=ins H20 q21 (.cells ⟨cellsOf ((⟨1,0,0,0⟩:P4),(0:Int))++cellsOf ((⟨0,0,1,0⟩:P4),(0:Int))⟩ 33 (0,0)):=⟨_,rfl⟩
  have s21:Sub H20 H21:=by rw[hH21];exact sub_ins _ _ hq21
  have k21:H21 q21=some (.cells ⟨cellsOf ((⟨1,0,0,0⟩:P4),(0:Int))++cellsOf ((⟨0,0,1,0⟩:P4),(0:Int))⟩ 33 (0,0)):=by rw[hH21];exact ins_same _ _ _
  replace hh:=hh.up s21
  replace h1:=h1.up s21
  replace hid:=hid.up s21
  replace hx:=hx.up s21
  replace hy:=hy.up s21
  replace hz:=hz.up s21
  replace hzx:=hzx.up s21
  replace hcx:=hcx.up s21
  replace ha:=ha.up s21
  replace hm1:=hm1.up s21
  replace hm2:=hm2.up s21
  replace hb:=hb.up s21
  conv=>whnf
  have hn21:NumH H21 (.slice (some ⟨q21,0,none⟩) 2 2) [((⟨1,0,0,0⟩:P4),(0:Int)),((⟨0,0,1,0⟩:P4),(0:Int))]:=pair_num k21
  refine (c65 1 _).val fun H22 s22=>?_
  replace s22:Sub H21 H22:=by rw[hH21];exact s22
  replace hh:=hh.up s22
  replace h1:=h1.up s22
  replace hid:=hid.up s22
  replace hx:=hx.up s22
  replace hy:=hy.up s22
  replace hz:=hz.up s22
  replace hzx:=hzx.up s22
  replace hcx:=hcx.up s22
  replace ha:=ha.up s22
  replace hm1:=hm1.up s22
  replace hm2:=hm2.up s22
  replace hb:=hb.up s22
  replace hn21:=hn21.up s22
  conv=>whnf
  refine (c65 1 _).val fun H23 s23=>?_
  replace hh:=hh.up s23
  replace h1:=h1.up s23
  replace hid:=hid.up s23
  replace hx:=hx.up s23
  replace hy:=hy.up s23
  replace hz:=hz.up s23
  replace hzx:=hzx.up s23
  replace hcx:=hcx.up s23
  replace ha:=ha.up s23
  replace hm1:=hm1.up s23
  replace hm2:=hm2.up s23
  replace hb:=hb.up s23
  replace hn21:=hn21.up s23
  conv=>whnf
  intro q24 hq24 _
  obtain⟨H24,hH24⟩:∃ X,X=ins H23 q24 (.cells ⟨cellsOf ((⟨1,0,0,0⟩:P4),(0:Int))++cellsOf ((⟨1,0,0,0⟩:P4),(0:Int))⟩ 33 (0,0)):=⟨_,rfl⟩
  have s24:Sub H23 H24:=by rw[hH24];exact sub_ins _ _ hq24
  have k24:H24 q24=some (.cells ⟨cellsOf ((⟨1,0,0,0⟩:P4),(0:Int))++cellsOf ((⟨1,0,0,0⟩:P4),(0:Int))⟩ 33 (0,0)):=by rw[hH24];exact ins_same _ _ _
  replace hh:=hh.up s24
  replace h1:=h1.up s24
  replace hid:=hid.up s24
  replace hx:=hx.up s24
  replace hy:=hy.up s24
  replace hz:=hz.up s24
  replace hzx:=hzx.up s24
  replace hcx:=hcx.up s24
  replace ha:=ha.up s24
  replace hm1:=hm1.up s24
  replace hm2:=hm2.up s24
  replace hb:=hb.up s24
  replace hn21:=hn21.up s24
  conv=>whnf
  have hn24:NumH H24 (.slice (some ⟨q24,0,none⟩) 2 2) [((⟨1,0,0,0⟩:P4),(0:Int)),((⟨1,0,0,0⟩:P4),(0:Int))]:=pair_num k24
  refine (c47c [((⟨1,0,0,0⟩:P4),(0:Int)),((⟨0,0,1,0⟩:P4),(0:Int))] [((⟨1,0,0,0⟩:P4),(0:Int)),((⟨1,0,0,0⟩:P4),(0:Int))] ((⟨1,0,-1,0⟩:P4),(0:Int)) 0 (by kernel_rfl) (by decide) (by decide) _ _ _ (by have h:=hn21;rw[hH24] at h;exact h) (by have h:=hn24;rw[hH24] at h;exact h)).val fun H25 s25=>?_
  replace s25:Sub H24 H25:=by rw[hH24];exact s25
  replace hh:=hh.up s25
  replace h1:=h1.up s25
  replace hid:=hid.up s25
  replace hx:=hx.up s25
  replace hy:=hy.up s25
  replace hz:=hz.up s25
  replace hzx:=hzx.up s25
  replace hcx:=hcx.up s25
  replace ha:=ha.up s25
  replace hm1:=hm1.up s25
  replace hm2:=hm2.up s25
  replace hb:=hb.up s25
  replace hn21:=hn21.up s25
  replace hn24:=hn24.up s25
  conv=>whnf
  intro b23
  conv=>whnf
  intro q26 hq26 _
  obtain⟨H26,hH26⟩:∃ X,X=ins H25 q26 (.cells ⟨[.int .i64 0,.int .i64 0]⟩ 3 (0,0)):=⟨_,rfl⟩
  have s26:Sub H25 H26:=by rw[hH26];exact sub_ins _ _ hq26
  have k26:H26 q26=some (.cells ⟨[.int .i64 0,.int .i64 0]⟩ 3 (0,0)):=by rw[hH26];exact ins_same _ _ _
  replace hh:=hh.up s26
  replace h1:=h1.up s26
  replace hid:=hid.up s26
  replace hx:=hx.up s26
  replace hy:=hy.up s26
  replace hz:=hz.up s26
  replace hzx:=hzx.up s26
  replace hcx:=hcx.up s26
  replace ha:=ha.up s26
  replace hm1:=hm1.up s26
  replace hm2:=hm2.up s26
  replace hb:=hb.up s26
  conv=>whnf
  have hn26:IntsH H26 (.slice (some ⟨q26,0,none⟩) 2 2) [0,0]:=ints_lit k26
  refine (c22e (opM 9) [0,0] 2 5 (by decide) (by decide) (by kernel_rfl) (by decide) _ _ _ (by have h:=hcx;rw[hH26] at h;exact h) (by have h:=hn26;rw[hH26] at h;exact h)).val fun H27 s27=>?_
  replace s27:Sub H26 H27:=by rw[hH26];exact s27
  replace hh:=hh.up s27
  replace h1:=h1.up s27
  replace hid:=hid.up s27
  replace hx:=hx.up s27
  replace hy:=hy.up s27
  replace hz:=hz.up s27
  replace hzx:=hzx.up s27
  replace hcx:=hcx.up s27
  replace ha:=ha.up s27
  replace hm1:=hm1.up s27
  replace hm2:=hm2.up s27
  replace hb:=hb.up s27
  replace hn26:=hn26.up s27
  conv=>whnf
  intro q28 hq28 _
  obtain⟨H28,hH28⟩:∃ X,X=ins H27 q28 (.cells ⟨[.int .i64 0]⟩ 3 (0,0)):=⟨_,rfl⟩
  have s28:Sub H27 H28:=by rw[hH28];exact sub_ins _ _ hq28
  have k28:H28 q28=some (.cells ⟨[.int .i64 0]⟩ 3 (0,0)):=by rw[hH28];exact ins_same _ _ _
  replace hh:=hh.up s28
  replace h1:=h1.up s28
  replace hid:=hid.up s28
  replace hx:=hx.up s28
  replace hy:=hy.up s28
  replace hz:=hz.up s28
  replace hzx:=hzx.up s28
  replace hcx:=hcx.up s28
  replace ha:=ha.up s28
  replace hm1:=hm1.up s28
  replace hm2:=hm2.up s28
  replace hb:=hb.up s28
  conv=>whnf
  have hn28:IntsH H28 (.slice (some ⟨q28,0,none⟩) 1 1) [0]:=ints_lit k28
  refine (c22e (opM 9) [0] 2 7 (by decide) (by decide) (by kernel_rfl) (by decide) _ _ _ (by have h:=hcx;rw[hH28] at h;exact h) (by have h:=hn28;rw[hH28] at h;exact h)).val fun H29 s29=>?_
  replace s29:Sub H28 H29:=by rw[hH28];exact s29
  replace hh:=hh.up s29
  replace h1:=h1.up s29
  replace hid:=hid.up s29
  replace hx:=hx.up s29
  replace hy:=hy.up s29
  replace hz:=hz.up s29
  replace hzx:=hzx.up s29
  replace hcx:=hcx.up s29
  replace ha:=ha.up s29
  replace hm1:=hm1.up s29
  replace hm2:=hm2.up s29
  replace hb:=hb.up s29
  replace hn28:=hn28.up s29
  conv=>whnf
  refine (c52c oneL (idM (2 ^ 1) (2 ^ 1)) (by kernel_rfl) (by decide) (by decide) _ _ _ h1 hid).val fun H30 s30=>?_
  replace hh:=hh.up s30
  replace h1:=h1.up s30
  replace hid:=hid.up s30
  replace hx:=hx.up s30
  replace hy:=hy.up s30
  replace hz:=hz.up s30
  replace hzx:=hzx.up s30
  replace hcx:=hcx.up s30
  replace ha:=ha.up s30
  replace hm1:=hm1.up s30
  replace hm2:=hm2.up s30
  replace hb:=hb.up s30
  conv=>whnf
  intro q31 hq31 _
  obtain⟨H31,hH31⟩:∃ X,X=ins H30 q31 (.cells ⟨[.int .i64 1,.int .i64 0,.int .i64 0,.int .i64 0]⟩ 3 (0,0)):=⟨_,rfl⟩
  have s31:Sub H30 H31:=by rw[hH31];exact sub_ins _ _ hq31
  have k31:H31 q31=some (.cells ⟨[.int .i64 1,.int .i64 0,.int .i64 0,.int .i64 0]⟩ 3 (0,0)):=by rw[hH31];exact ins_same _ _ _
  replace hh:=hh.up s31
  replace h1:=h1.up s31
  replace hid:=hid.up s31
  replace hx:=hx.up s31
  replace hy:=hy.up s31
  replace hz:=hz.up s31
  replace hzx:=hzx.up s31
  replace hcx:=hcx.up s31
  replace ha:=ha.up s31
  replace hm1:=hm1.up s31
  replace hm2:=hm2.up s31
  replace hb:=hb.up s31
  conv=>whnf
  have hn31:IntsH H31 (.slice (some ⟨q31,0,none⟩) 4 4) [1,0,0,0]:=ints_lit k31
  intro q32 hq32 _
  replace hq32:H31 q32=none:=by rw[hH31];exact hq32
  obtain⟨H32,hH32⟩:∃ X,X=ins H31 q32 (.cells ⟨[.int .i64 0,.int .i64 1,.int .i64 0,.int .i64 0]⟩ 3 (0,0)):=⟨_,rfl⟩
  have s32:Sub H31 H32:=by rw[hH32];exact sub_ins _ _ hq32
  have k32:H32 q32=some (.cells ⟨[.int .i64 0,.int .i64 1,.int .i64 0,.int .i64 0]⟩ 3 (0,0)):=by rw[hH32];exact ins_same _ _ _
  rw[hH31] at hH32
  replace hh:=hh.up s32
  replace h1:=h1.up s32
  replace hid:=hid.up s32
  replace hx:=hx.up s32
  replace hy:=hy.up s32
  replace hz:=hz.up s32
  replace hzx:=hzx.up s32
  replace hcx:=hcx.up s32
  replace ha:=ha.up s32
  replace hm1:=hm1.up s32
  replace hm2:=hm2.up s32
  replace hb:=hb.up s32
  replace hn31:=hn31.up s32
  conv=>whnf
  have hn32:IntsH H32 (.slice (some ⟨q32,0,none⟩) 4 4) [0,1,0,0]:=ints_lit k32
  intro q33 hq33 _
  replace hq33:H32 q33=none:=by rw[hH32];exact hq33
  obtain⟨H33,hH33⟩:∃ X,X=ins H32 q33 (.cells ⟨[.int .i64 0,.int .i64 0,.int .i64 0,.int .i64 1]⟩ 3 (0,0)):=⟨_,rfl⟩
  have s33:Sub H32 H33:=by rw[hH33];exact sub_ins _ _ hq33
  have k33:H33 q33=some (.cells ⟨[.int .i64 0,.int .i64 0,.int .i64 0,.int .i64 1]⟩ 3 (0,0)):=by rw[hH33];exact ins_same _ _ _
  rw[hH32] at hH33
  replace hh:=hh.up s33
  replace h1:=h1.up s33
  replace hid:=hid.up s33
  replace hx:=hx.up s33
  replace hy:=hy.up s33
  replace hz:=hz.up s33
  replace hzx:=hzx.up s33
  replace hcx:=hcx.up s33
  replace ha:=ha.up s33
  replace hm1:=hm1.up s33
  replace hm2:=hm2.up s33
  replace hb:=hb.up s33
  replace hn31:=hn31.up s33
  replace hn32:=hn32.up s33
  conv=>whnf
  have hn33:IntsH H33 (.slice (some ⟨q33,0,none⟩) 4 4) [0,0,0,1]:=ints_lit k33
  intro q34 hq34 _
  replace hq34:H33 q34=none:=by rw[hH33];exact hq34
  obtain⟨H34,hH34⟩:∃ X,X=ins H33 q34 (.cells ⟨[.int .i64 0,.int .i64 0,.int .i64 1,.int .i64 0]⟩ 3 (0,0)):=⟨_,rfl⟩
  have s34:Sub H33 H34:=by rw[hH34];exact sub_ins _ _ hq34
  have k34:H34 q34=some (.cells ⟨[.int .i64 0,.int .i64 0,.int .i64 1,.int .i64 0]⟩ 3 (0,0)):=by rw[hH34];exact ins_same _ _ _
  rw[hH33] at hH34
  replace hh:=hh.up s34
  replace h1:=h1.up s34
  replace hid:=hid.up s34
  replace hx:=hx.up s34
  replace hy:=hy.up s34
  replace hz:=hz.up s34
  replace hzx:=hzx.up s34
  replace hcx:=hcx.up s34
  replace ha:=ha.up s34
  replace hm1:=hm1.up s34
  replace hm2:=hm2.up s34
  replace hb:=hb.up s34
  replace hn31:=hn31.up s34
  replace hn32:=hn32.up s34
  replace hn33:=hn33.up s34
  conv=>whnf
  have hn34:IntsH H34 (.slice (some ⟨q34,0,none⟩) 4 4) [0,0,1,0]:=ints_lit k34
  intro q35 hq35 _
  replace hq35:H34 q35=none:=by rw[hH34];exact hq35
  obtain⟨H35,hH35⟩:∃ X,X=ins H34 q35 (.cells ⟨[.slice (some ⟨q31,0,none⟩) 4 4,.slice (some ⟨q32,0,none⟩) 4 4,.slice (some ⟨q33,0,none⟩) 4 4,.slice (some ⟨q34,0,none⟩) 4 4]⟩ 28 (0,0)):=⟨_,rfl⟩
  have s35:Sub H34 H35:=by rw[hH35];exact sub_ins _ _ hq35
  have k35:H35 q35=some (.cells ⟨[.slice (some ⟨q31,0,none⟩) 4 4,.slice (some ⟨q32,0,none⟩) 4 4,.slice (some ⟨q33,0,none⟩) 4 4,.slice (some ⟨q34,0,none⟩) 4 4]⟩ 28 (0,0)):=by rw[hH35];exact ins_same _ _ _
  rw[hH34] at hH35
  replace hh:=hh.up s35
  replace h1:=h1.up s35
  replace hid:=hid.up s35
  replace hx:=hx.up s35
  replace hy:=hy.up s35
  replace hz:=hz.up s35
  replace hzx:=hzx.up s35
  replace hcx:=hcx.up s35
  replace ha:=ha.up s35
  replace hm1:=hm1.up s35
  replace hm2:=hm2.up s35
  replace hb:=hb.up s35
  replace hn31:=hn31.up s35
  replace hn32:=hn32.up s35
  replace hn33:=hn33.up s35
  replace hn34:=hn34.up s35
  conv=>whnf
  have hr35:IntssH H35 (.slice (some ⟨q35,0,none⟩) 4 4) [[1,0,0,0],[0,1,0,0],[0,0,0,1],[0,0,1,0]]:=intss4 k35 hn31 hn32 hn33 hn34
  refine (c64' [[1,0,0,0],[0,1,0,0],[0,0,0,1],[0,0,1,0]] (by decide) (by decide) _ _ (by have h:=hr35;rw[hH35] at h;exact h)).use fun r H36 s36 hr=>?_
  replace s36:Sub H35 H36:=by rw[hH35];exact s36
  replace hh:=hh.up s36
  replace h1:=h1.up s36
  replace hid:=hid.up s36
  replace hx:=hx.up s36
  replace hy:=hy.up s36
  replace hz:=hz.up s36
  replace hzx:=hzx.up s36
  replace hcx:=hcx.up s36
  replace ha:=ha.up s36
  replace hm1:=hm1.up s36
  replace hm2:=hm2.up s36
  replace hb:=hb.up s36
  obtain⟨_,ha4⟩:=hr
  conv=>whnf
  refine (c52c aL _ (by kernel_rfl) (by decide) (by decide) _ _ _ ha ha4).val fun H37 s37=>?_
  replace hh:=hh.up s37
  replace h1:=h1.up s37
  replace hid:=hid.up s37
  replace hx:=hx.up s37
  replace hy:=hy.up s37
  replace hz:=hz.up s37
  replace hzx:=hzx.up s37
  replace hcx:=hcx.up s37
  replace ha:=ha.up s37
  replace hm1:=hm1.up s37
  replace hm2:=hm2.up s37
  replace hb:=hb.up s37
  replace ha4:=ha4.up s37
  conv=>whnf
  intro q38 hq38 _
  obtain⟨H38,hH38⟩:∃ X,X=ins H37 q38 (.cells ⟨[.int .i64 3,.int .i64 6]⟩ 3 (0,0)):=⟨_,rfl⟩
  have s38:Sub H37 H38:=by rw[hH38];exact sub_ins _ _ hq38
  have k38:H38 q38=some (.cells ⟨[.int .i64 3,.int .i64 6]⟩ 3 (0,0)):=by rw[hH38];exact ins_same _ _ _
  replace hh:=hh.up s38
  replace h1:=h1.up s38
  replace hid:=hid.up s38
  replace hx:=hx.up s38
  replace hy:=hy.up s38
  replace hz:=hz.up s38
  replace hzx:=hzx.up s38
  replace hcx:=hcx.up s38
  replace ha:=ha.up s38
  replace hm1:=hm1.up s38
  replace hm2:=hm2.up s38
  replace hb:=hb.up s38
  replace ha4:=ha4.up s38
  conv=>whnf
  have hn38:IntsH H38 (.slice (some ⟨q38,0,none⟩) 2 2) [3,6]:=ints_lit k38
  intro q39 hq39 _
  replace hq39:H38 q39=none:=by rw[hH38];exact hq39
  obtain⟨H39,hH39⟩:∃ X,X=ins H38 q39 (.cells ⟨[.int .i64 4,.int .i64 8]⟩ 3 (0,0)):=⟨_,rfl⟩
  have s39:Sub H38 H39:=by rw[hH39];exact sub_ins _ _ hq39
  have k39:H39 q39=some (.cells ⟨[.int .i64 4,.int .i64 8]⟩ 3 (0,0)):=by rw[hH39];exact ins_same _ _ _
  rw[hH38] at hH39
  replace hh:=hh.up s39
  replace h1:=h1.up s39
  replace hid:=hid.up s39
  replace hx:=hx.up s39
  replace hy:=hy.up s39
  replace hz:=hz.up s39
  replace hzx:=hzx.up s39
  replace hcx:=hcx.up s39
  replace ha:=ha.up s39
  replace hm1:=hm1.up s39
  replace hm2:=hm2.up s39
  replace hb:=hb.up s39
  replace ha4:=ha4.up s39
  replace hn38:=hn38.up s39
  conv=>whnf
  have hn39:IntsH H39 (.slice (some ⟨q39,0,none⟩) 2 2) [4,8]:=ints_lit k39
  intro q40 hq40 _
  replace hq40:H39 q40=none:=by rw[hH39];exact hq40
  obtain⟨H40,hH40⟩:∃ X,X=ins H39 q40 (.cells ⟨[.slice (some ⟨q38,0,none⟩) 2 2,.slice (some ⟨q39,0,none⟩) 2 2]⟩ 28 (0,0)):=⟨_,rfl⟩
  have s40:Sub H39 H40:=by rw[hH40];exact sub_ins _ _ hq40
  have k40:H40 q40=some (.cells ⟨[.slice (some ⟨q38,0,none⟩) 2 2,.slice (some ⟨q39,0,none⟩) 2 2]⟩ 28 (0,0)):=by rw[hH40];exact ins_same _ _ _
  rw[hH39] at hH40
  replace hh:=hh.up s40
  replace h1:=h1.up s40
  replace hid:=hid.up s40
  replace hx:=hx.up s40
  replace hy:=hy.up s40
  replace hz:=hz.up s40
  replace hzx:=hzx.up s40
  replace hcx:=hcx.up s40
  replace ha:=ha.up s40
  replace hm1:=hm1.up s40
  replace hm2:=hm2.up s40
  replace hb:=hb.up s40
  replace ha4:=ha4.up s40
  replace hn38:=hn38.up s40
  replace hn39:=hn39.up s40
  conv=>whnf
  have hr40:IntssH H40 (.slice (some ⟨q40,0,none⟩) 2 2) [[3,6],[4,8]]:=intss2 k40 hn38 hn39
  refine (c64' [[3,6],[4,8]] (by decide) (by decide) _ _ (by have h:=hr40;rw[hH40] at h;exact h)).use fun r H41 s41 hr=>?_
  replace s41:Sub H40 H41:=by rw[hH40];exact s41
  replace hh:=hh.up s41
  replace h1:=h1.up s41
  replace hid:=hid.up s41
  replace hx:=hx.up s41
  replace hy:=hy.up s41
  replace hz:=hz.up s41
  replace hzx:=hzx.up s41
  replace hcx:=hcx.up s41
  replace ha:=ha.up s41
  replace hm1:=hm1.up s41
  replace hm2:=hm2.up s41
  replace hb:=hb.up s41
  replace ha4:=ha4.up s41
  obtain⟨_,hb4⟩:=hr
  conv=>whnf
  refine (c52c bL _ (by kernel_rfl) (by decide) (by decide) _ _ _ hb hb4).val fun H42 s42=>?_
  replace hh:=hh.up s42
  replace h1:=h1.up s42
  replace hid:=hid.up s42
  replace hx:=hx.up s42
  replace hy:=hy.up s42
  replace hz:=hz.up s42
  replace hzx:=hzx.up s42
  replace hcx:=hcx.up s42
  replace ha:=ha.up s42
  replace hm1:=hm1.up s42
  replace hm2:=hm2.up s42
  replace hb:=hb.up s42
  replace ha4:=ha4.up s42
  replace hb4:=hb4.up s42
  conv=>whnf
  intro q43 hq43 _
  obtain⟨H43,hH43⟩:∃ X,X=ins H42 q43 (.cells ⟨cellsOf ((⟨0,0,0,0⟩:P4),(0:Int))++cellsOf ((⟨0,0,0,0⟩:P4),(0:Int))⟩ 33 (0,0)):=⟨_,rfl⟩
  have s43:Sub H42 H43:=by rw[hH43];exact sub_ins _ _ hq43
  have k43:H43 q43=some (.cells ⟨cellsOf ((⟨0,0,0,0⟩:P4),(0:Int))++cellsOf ((⟨0,0,0,0⟩:P4),(0:Int))⟩ 33 (0,0)):=by rw[hH43];exact ins_same _ _ _
  replace hh:=hh.up s43
  replace h1:=h1.up s43
  replace hid:=hid.up s43
  replace hx:=hx.up s43
  replace hy:=hy.up s43
  replace hz:=hz.up s43
  replace hzx:=hzx.up s43
  replace hcx:=hcx.up s43
  replace ha:=ha.up s43
  replace hm1:=hm1.up s43
  replace hm2:=hm2.up s43
  replace hb:=hb.up s43
  replace ha4:=ha4.up s43
  replace hb4:=hb4.up s43
  conv=>whnf
  have hn43:NumH H43 (.slice (some ⟨q43,0,none⟩) 2 2) [((⟨0,0,0,0⟩:P4),(0:Int)),((⟨0,0,0,0⟩:P4),(0:Int))]:=pair_num k43
  intro q44 hq44 _
  replace hq44:H43 q44=none:=by rw[hH43];exact hq44
  obtain⟨H44,hH44⟩:∃ X,X=ins H43 q44 (.cells ⟨cellsOf ((⟨0,0,0,0⟩:P4),(0:Int))⟩ 33 (0,0)):=⟨_,rfl⟩
  have s44:Sub H43 H44:=by rw[hH44];exact sub_ins _ _ hq44
  have k44:H44 q44=some (.cells ⟨cellsOf ((⟨0,0,0,0⟩:P4),(0:Int))⟩ 33 (0,0)):=by rw[hH44];exact ins_same _ _ _
  rw[hH43] at hH44
  replace hh:=hh.up s44
  replace h1:=h1.up s44
  replace hid:=hid.up s44
  replace hx:=hx.up s44
  replace hy:=hy.up s44
  replace hz:=hz.up s44
  replace hzx:=hzx.up s44
  replace hcx:=hcx.up s44
  replace ha:=ha.up s44
  replace hm1:=hm1.up s44
  replace hm2:=hm2.up s44
  replace hb:=hb.up s44
  replace ha4:=ha4.up s44
  replace hb4:=hb4.up s44
  replace hn43:=hn43.up s44
  conv=>whnf
  have hn44:NumH H44 (.slice (some ⟨q44,0,none⟩) 1 1) [((⟨0,0,0,0⟩:P4),(0:Int))]:=sing_num k44
  intro q45 hq45 _
  replace hq45:H44 q45=none:=by rw[hH44];exact hq45
  obtain⟨H45,hH45⟩:∃ X,X=ins H44 q45 (.cells ⟨[.slice (some ⟨q43,0,none⟩) 2 2,.slice (some ⟨q44,0,none⟩) 1 1]⟩ 31 (0,0)):=⟨_,rfl⟩
  have s45:Sub H44 H45:=by rw[hH45];exact sub_ins _ _ hq45
  have k45:H45 q45=some (.cells ⟨[.slice (some ⟨q43,0,none⟩) 2 2,.slice (some ⟨q44,0,none⟩) 1 1]⟩ 31 (0,0)):=by rw[hH45];exact ins_same _ _ _
  rw[hH44] at hH45
  replace hh:=hh.up s45
  replace h1:=h1.up s45
  replace hid:=hid.up s45
  replace hx:=hx.up s45
  replace hy:=hy.up s45
  replace hz:=hz.up s45
  replace hzx:=hzx.up s45
  replace hcx:=hcx.up s45
  replace ha:=ha.up s45
  replace hm1:=hm1.up s45
  replace hm2:=hm2.up s45
  replace hb:=hb.up s45
  replace ha4:=ha4.up s45
  replace hb4:=hb4.up s45
  replace hn43:=hn43.up s45
  replace hn44:=hn44.up s45
  conv=>whnf
  have hcm:MatH H45 (.slice (some ⟨q45,0,none⟩) 2 2) [[((⟨0,0,0,0⟩:P4),(0:Int)),((⟨0,0,0,0⟩:P4),(0:Int))],[((⟨0,0,0,0⟩:P4),(0:Int))]]:=mat2 k45 hn43 hn44
  refine (c29c [[((⟨0,0,0,0⟩:P4),(0:Int)),((⟨0,0,0,0⟩:P4),(0:Int))],[((⟨0,0,0,0⟩:P4),(0:Int))]] 2 (by kernel_rfl) (by decide) _ _ (by have h:=hcm;rw[hH45] at h;exact h)).val fun H46 s46=>?_
  replace s46:Sub H45 H46:=by rw[hH45];exact s46
  replace hh:=hh.up s46
  replace h1:=h1.up s46
  replace hid:=hid.up s46
  replace hx:=hx.up s46
  replace hy:=hy.up s46
  replace hz:=hz.up s46
  replace hzx:=hzx.up s46
  replace hcx:=hcx.up s46
  replace ha:=ha.up s46
  replace hm1:=hm1.up s46
  replace hm2:=hm2.up s46
  replace hb:=hb.up s46
  replace ha4:=ha4.up s46
  replace hb4:=hb4.up s46
  replace hn43:=hn43.up s46
  replace hn44:=hn44.up s46
  conv=>whnf
  rfl
end Go.Proofs.YtgbhgfdgifkdhaaGreat

namespace Go.Proofs.YtgbhgfdgifkdhaaGreat
open Go.Proofs.YtgbhgfdgifkdhaaGreat.X Go.Proofs.YtgbhgfdgifkdhaaGreat.X.PH
set_option maxRecDepth 100000
def fitsR (p : P4) (k:Int):(P4 × Int) × Int:=if checkR (formR p k).1 (formR p k).2 ≠ 0 then ((P4.zero,0),8) else (formR p k,0)
theorem c159 (p : P4) (k:Int) (h1:-9223372036854775808≤k) (h2:k < 9223372036854775808) (H:PH):Cl Tryz.prog 210 [p.num k] H emp fun v _ _=>v=ne (fitsR p k):=by
  refine Cl_of (pol:=polL) Γok Tryz.func210 (by kernel_rfl) rfl ?_
  conv=>whnf
  repeat (intro _;conv=>whnf)
  refine (c72 p k h1 h2 _).val fun H1 s1=>?_
  conv=>whnf
  refine (c108 (formR p k).1 (formR p k).2 _).val fun H2 s2=>?_
  conv=>whnf
  unfold fitsR
  refine if_intro (fun he=>?_) (fun he=>?_)
  · conv=>whnf
    rw[if_pos (by simpa using he)]
    rfl
  · conv=>whnf
    rw[if_neg (by simpa using he)]
    rfl
def productR (p q : P4):P4:=
  ⟨wr (wr (wr (wr (p.a*q.a) - wr (p.b*q.d)) - wr (p.c*q.c)) - wr (p.d*q.b)),
   wr (wr (wr (wr (p.a*q.b)+wr (p.b*q.a)) - wr (p.c*q.d)) - wr (p.d*q.c)),
   wr (wr (wr (wr (p.a*q.c)+wr (p.b*q.b))+wr (p.c*q.a)) - wr (p.d*q.d)),
   wr (wr (wr (wr (p.a*q.d)+wr (p.b*q.c))+wr (p.c*q.b))+wr (p.d*q.a))⟩
theorem c160 (x y : P4 × Int) (H:PH):Cl Tryz.prog 211 [nv x,nv y] H emp fun v _ _=>v=(productR x.1 y.1).num (wr (x.2+y.2)):=by
  refine Cl_of (pol:=polL) Γok Tryz.func211 (by kernel_rfl) rfl ?_
  conv=>whnf
  repeat (intro _;conv=>whnf)
  rfl
def MulR (x y : P4 × Int):(P4 × Int) × Int:=if errsR [x,y] ≠ 0 then ((P4.zero,0),errsR [x,y]) else fitsR (productR x.1 y.1) (wr (x.2+y.2))
theorem c98 (x y : P4 × Int) (H:PH):Cl Tryz.prog 129 [nv x,nv y] H emp fun v _ _=>v=ne (MulR x y):=by
  refine Cl_of (pol:=fun | 9=>.imm | _=>.loc) Γok Tryz.func129 (by kernel_rfl) rfl ?_
  conv=>whnf
  iterate 3 (intro _;conv=>whnf)
  intro b hb hO
  conv=>whnf
  refine (c94 [x,y] _ _ (pair_num (ins_same _ _ _)) (by simp)).val fun H1 hs1=>?_
  conv=>whnf
  unfold MulR
  refine if_intro (fun he=>?_) (fun he=>?_)
  · conv=>whnf
    rw[if_pos (show errsR [x,y] ≠ 0 by simpa using he)]
    rfl
  · rw[if_neg (show ¬ errsR [x,y] ≠ 0 by simpa using he)]
    conv=>whnf
    refine (c160 x y _).val fun H2 hs2=>?_
    conv=>whnf
    refine (c159 (productR x.1 y.1) (wr (x.2+y.2)) (wr_bounds _).1 (wr_bounds _).2 _).val fun H3 hs3=>?_
    conv=>whnf
    rfl
theorem c99 (n : Nat) (hn:n < 8) (H:PH):Cl Tryz.prog 99 [.int .i64 n] H emp fun v _ _=>v=nv (OmegaF n):=by
  refine Cl_of (pol:=polL) Γok Tryz.func99 (by kernel_rfl) rfl ?_
  obtain rfl | rfl | rfl | rfl | rfl | rfl | rfl | rfl:n=0∨n=1∨n=2∨n=3∨n=4∨n=5∨n=6∨n=7:=by omega
  all_goals conv=>whnf
  all_goals repeat (intro _;conv=>whnf)
  all_goals refine W_rounds (pol:=polL) Γok 9 ?_
  all_goals conv=>whnf
  all_goals rfl
theorem c100 (x y : P4 × Int) (hx:-9223372036854775808≤x.2∧x.2 < 9223372036854775808) (hy:-9223372036854775808≤y.2∧y.2 < 9223372036854775808) (H:PH):Cl Tryz.prog 203 [nv x,nv y] H emp fun v _ _=>v=.bool (eqN (formR x.1 x.2) (formR y.1 y.2)):=by
  refine Cl_of (pol:=polL) Γok Tryz.func203 (by kernel_rfl) rfl ?_
  conv=>whnf
  repeat (intro _;conv=>whnf)
  refine W_draw (pol:=polL) Γok mixes [(0,.pendO),(2,.pend),(1,.lock),(3,.lock),(4,.pendO),(5,.pendO)] 10 (by kernel_rfl) rfl ?_
  conv=>whnf
  refine (c72 x.1 x.2 hx.1 hx.2 _).val fun H1 s1=>?_
  conv=>whnf
  refine (c72 y.1 y.2 hy.1 hy.2 _).val fun H2 s2=>?_
  conv=>whnf
  rfl
def bothR (m n : List (List (P4 × Int))):Int:=if checkMR m ≠ 0 then checkMR m else checkMR n
theorem c95 (m n : List (List (P4 × Int))) (H:PH) (u v:Value) (hu:MatH H u m) (hv:MatH H v n):Cl Tryz.prog 124 [u,v] H emp fun r _ _=>r=.int .i64 (bothR m n):=by
  refine Cl_of (pol:=polL) Γok Tryz.func124 (by kernel_rfl) rfl ?_
  conv=>whnf
  refine (c30 m _ _ hu).val fun H1 s1=>?_
  conv=>whnf
  unfold bothR
  refine if_intro (fun he=>?_) (fun he=>?_)
  · conv=>whnf
    rw[if_pos (show checkMR m ≠ 0 by simpa using he)]
  · rw[if_neg (show ¬ checkMR m ≠ 0 by simpa using he)]
    conv=>whnf
    refine (c30 n _ _ (hv.up s1)).val fun H2 s2=>?_
    conv=>whnf
theorem bothR_eq (m n : List (List (P4 × Int))):bothR m n=errsM [m,n]:=by
  unfold bothR errsM
  simp only[List.map_cons,List.map_nil,firstErr,checkMF_checkMR]
  by_cases h:checkMR m=0
  · rw[if_neg (by simpa using h),if_pos h]
    split<;>simp_all
  · rw[if_pos h,if_neg h]
theorem c97 (m n : List (List (P4 × Int))) (hm:0 < m.length) (hn:0 < n.length) (H:PH) (u v:Value) (hu:MatH H u m) (hv:MatH H v n):Cl Tryz.prog 125 [u,v] H emp fun r _ _=>r=.bool (alikeF m n):=by
  obtain⟨base,cap,rfl⟩:=hu.sl
  obtain⟨base',cap',rfl⟩:=hv.sl
  obtain⟨bu,ou,ru,cu,rfl,hru,_⟩:=hu.rd (O:=emp) hm
  obtain⟨bv,ov,rv,cv,rfl,hrv,_⟩:=hv.rd (O:=emp) hn
  rw[← wideM_get hm] at hru
  rw[← wideM_get hn] at hrv
  refine Cl_of (pol:=polL) Γok Tryz.func125 (by kernel_rfl) rfl ?_
  conv=>whnf
  refine W_draw (pol:=polL) Γok mixes [(0,.pendO),(1,.pendO),(2,.pendO),(3,.pendO),(4,.pendO),(5,.pendO),(6,.pendO),(7,.pendO),(8,.pendO),(9,.pendO),(10,.pendO),(11,.pendO),(12,.pendO),(13,.pendO),(14,.pendO),(15,.pendO),(16,.pendO)] 21 (by kernel_rfl) rfl ?_
  conv=>whnf
  unfold alikeF
  refine if_intro (fun he=>?_) (fun he=>?_)
  · conv=>whnf
    refine dec_intro (by omega) ?_
    conv=>whnf
    refine⟨_,hru,?_⟩
    conv=>whnf
    refine dec_intro (by omega) ?_
    conv=>whnf
    refine⟨_,hrv,?_⟩
    conv=>whnf
    rw[he]
    rfl
  · conv=>whnf
    rw[he]
    rfl
end Go.Proofs.YtgbhgfdgifkdhaaGreat

namespace Go.Proofs.YtgbhgfdgifkdhaaGreat
open Go.Proofs.YtgbhgfdgifkdhaaGreat.X Go.Proofs.YtgbhgfdgifkdhaaGreat.X.PH
set_option maxRecDepth 100000
def eqAt (m n : List (List (P4 × Int))) (t:Nat):Bool:=
  eqN (formR (entry m (t / wideM m) (t % wideM m)).1 (entry m (t / wideM m) (t % wideM m)).2) (formR (entry n (t / wideM m) (t % wideM m)).1 (entry n (t / wideM m) (t % wideM m)).2)
def equalR (m n : List (List (P4 × Int))):Bool:=alikeF m n && (List.range (m.length*wideM m)).all (eqAt m n)
theorem right_k {m : List (List (P4 × Int))} (h:checkMF m=0) {i k:Nat} (hi:i < m.length) (hk:k < m[i].length):-9223372036854775808≤(m[i][k]).2∧(m[i][k]).2 < 9223372036854775808:=by
  rw[checkMF_checkMR] at h
  obtain⟨_,_,_,z4⟩:=checkMR_zero h
  have:=checkR_zero (z4 _ (List.getElem_mem hi) _ (List.getElem_mem hk))
  omega
theorem alike_iff {m n : List (List (P4 × Int))} (h:alikeF m n=true):m.length=n.length∧wideM m=wideM n:=by
  unfold alikeF at h
  simp at h
  omega
theorem divmod {i k w : Nat} (hk:k < w):(i*w+k) / w=i∧(i*w+k) % w=k:=by
  have hw:0 < w:=by omega
  rw[Nat.mul_comm,Nat.mul_add_div hw,Nat.div_eq_of_lt hk,Nat.mul_add_mod,Nat.mod_eq_of_lt hk]
  exact⟨rfl,rfl⟩
theorem c96 (m n : List (List (P4 × Int))) (hm:checkMF m=0) (hn:checkMF n=0) (H:PH) (u v:Value) (hu:MatH H u m) (hv:MatH H v n):Cl Tryz.prog 202 [u,v] H emp fun r _ _=>r=.bool (equalR m n):=by
  obtain⟨base,cap,rfl⟩:=hu.sl
  obtain⟨base',cap',rfl⟩:=hv.sl
  have rm:=right_of hm
  have rn:=right_of hn
  refine Cl_of (pol:=polL) Γok Tryz.func202 (by kernel_rfl) rfl ?_
  conv=>whnf
  refine (c97 m n rm.pos rn.pos _ _ _ hu hv).val fun H1 s1=>?_
  conv=>whnf
  unfold equalR
  refine if_intro (fun ha=>?_) (fun ha=>?_)
  · conv=>whnf
    rw[show alikeF m n=false by simpa using ha]
    rfl
  have ha:alikeF m n=true:=by simpa using ha
  obtain⟨e1,e2⟩:=alike_iff ha
  rw[ha,Bool.true_and]
  have hle:=rm.le
  have hwle:=rm.wle
  conv=>whnf
  refine W_loop (pol:=polL) Γok (Nat × PH) (fun i=>i.1≤m.length∧Sub H1 i.2∧∀ t,t < i.1*wideM m→eqAt m n t=true) (fun i=>m.length - i.1) (fun i=>[(5,.v (.int .i64 i.1))]) (fun _=>[]) (fun i=>i.2) (fun _=>emp) ⟨(0,H1),⟨by simp,Sub.refl _,by simp⟩,rfl,rfl,?_⟩ ?_
  · conv=>whnf
    repeat (refine⟨rfl,?_⟩;conv=>whnf)
    exact trivial
  · rintro ⟨i,H'⟩ ⟨h1,h2,h3⟩
    dsimp only at h1 h2 h3
    conv=>whnf
    refine if_intro (fun h=>?_) (fun h=>?_)
    · have hi:i < m.length:=by simpa using h
      have hi':i < n.length:=by omega
      have r1:=rm.row _ (List.getElem_mem hi)
      have r2:=rn.row _ (List.getElem_mem hi')
      conv=>whnf
      refine W_loopX (pol:=polL) Γok (Nat × PH) (fun k=>k.1≤wideM m∧Sub H1 k.2∧∀ t,t < i*wideM m+k.1→eqAt m n t=true) (fun k=>wideM m - k.1) (fun e k=>e=.exit 2∧Sub H1 k.2∧∀ t,t < (i+1)*wideM m→eqAt m n t=true) (fun k=>[(6,.v (.int .i64 k.1))]) (fun _=>[]) (fun k=>k.2) (fun _=>emp) ⟨(0,H'),⟨by simp,h2,by simpa using h3⟩,rfl,rfl,?_⟩ ?_ ?_
      · conv=>whnf
        repeat (refine⟨rfl,?_⟩;conv=>whnf)
        exact trivial
      · rintro ⟨k,H2⟩ ⟨k1,k2,k3⟩
        dsimp only at k1 k2 k3
        have hu2:=(hu.up s1).up k2
        have hv2:=(hv.up s1).up k2
        obtain⟨bu,ou,ru,cu,hbu,hru,_⟩:=hu2.rd (O:=emp) hi
        subst hbu
        conv=>whnf
        refine dec_intro (by omega) ?_
        conv=>whnf
        refine⟨_,hru,?_⟩
        conv=>whnf
        refine if_intro (fun h=>?_) (fun h=>?_)
        · have hk:k < wideM m:=by simp at h;omega
          have hkm:k < m[i].length:=by omega
          have hkn:k < n[i].length:=by omega
          obtain⟨b0,off,b',off',cu',hb0,q1,q2⟩:=hu2.row' hi hkm
          obtain⟨b1,off1,b1',off1',cv',hb1,q3,q4⟩:=hv2.row' hi' hkn
          cases hb0
          subst hb1
          have hdm:=divmod (i:=i) hk
          have he:eqAt m n (i*wideM m+k)=eqN (formR m[i][k].1 m[i][k].2) (formR n[i][k].1 n[i][k].2):=by
            unfold eqAt
            rw[hdm.1,hdm.2,entry_get hi hkm,entry_get hi' hkn]
          conv=>whnf
          refine W_draw (pol:=polL) Γok mixes [(0,.pendO),(1,.pendO),(2,.pendO),(3,.pendO),(4,.pendO),(5,.pendO),(6,.pendO),(7,.pendO),(8,.pendO),(9,.pendO),(10,.pendO),(11,.pendO),(12,.pendO),(13,.pendO),(14,.lock),(15,.pendO)] 42 (by kernel_rfl) rfl ?_
          conv=>whnf
          refine dec_intro (by omega) ?_
          conv=>whnf
          refine⟨_,q1 _,?_⟩
          conv=>whnf
          refine dec_intro (by omega) ?_
          conv=>whnf
          refine⟨_,q2 _,?_⟩
          conv=>whnf
          refine dec_intro (by omega) ?_
          conv=>whnf
          refine⟨_,q3 _,?_⟩
          conv=>whnf
          refine dec_intro (by omega) ?_
          conv=>whnf
          refine⟨_,q4 _,?_⟩
          conv=>whnf
          refine (c100 m[i][k] n[i][k] (right_k hm hi hkm) (right_k hn hi' hkn) _).val fun H3 s3=>?_
          conv=>whnf
          refine if_intro (fun hq=>?_) (fun hq=>?_)
          · conv=>whnf
            refine .inl ?_
            conv=>whnf
            have:(List.range (m.length*wideM m)).all (eqAt m n)=false:=by
              rw[List.all_eq_false]
              refine⟨i*wideM m+k,List.mem_range.2 ?_,by rw[he];simpa using hq⟩
              have:(i+1)*wideM m≤m.length*wideM m:=Nat.mul_le_mul_right _ hi
              rw[Nat.succ_mul] at this
              omega
            rw[this]
          · conv=>whnf
            refine⟨(k+1,H3),⟨hk,k2.trans s3,fun t ht=>?_⟩,by dsimp only;omega,?_⟩
            · rcases Nat.lt_or_ge t (i*wideM m+k) with h | h
              · exact k3 t h
              · rw[show t=i*wideM m+k by omega,he];simpa using hq
            conv=>whnf
            refine⟨rfl,rfl,?_⟩
            conv=>whnf
            repeat (refine⟨rfl,?_⟩;conv=>whnf)
            refine⟨by show En.v (.int .i64 (IntKind.i64.wrap (k+1)))=_;rw[wrap_id (by omega) (by omega)];rfl,?_⟩
            conv=>whnf
            repeat (refine⟨rfl,?_⟩;conv=>whnf)
            exact trivial
        · have hk:k=wideM m:=by simp at h;omega
          conv=>whnf
          refine .inr ⟨(k,H2),⟨rfl,k2,fun t ht=>k3 t (by rw[Nat.succ_mul] at ht;omega)⟩,?_⟩
          conv=>whnf
          refine⟨rfl,rfl,?_⟩
          conv=>whnf
          repeat (refine⟨rfl,?_⟩;conv=>whnf)
          exact trivial
      · rintro e ⟨k,H2⟩ ⟨rfl,k2,k3⟩
        conv=>whnf
        refine⟨(i+1,H2),⟨hi,k2,k3⟩,by dsimp only;omega,?_⟩
        conv=>whnf
        refine⟨rfl,rfl,?_⟩
        conv=>whnf
        repeat (refine⟨rfl,?_⟩;conv=>whnf)
        refine⟨by show En.v (.int .i64 (IntKind.i64.wrap (i+1)))=_;rw[wrap_id (by omega) (by omega)];rfl,?_⟩
        conv=>whnf
        repeat (refine⟨rfl,?_⟩;conv=>whnf)
        exact trivial
    · conv=>whnf
      have hi:i=m.length:=by simp at h;omega
      subst hi
      rw[show (List.range (m.length*wideM m)).all (eqAt m n)=true from List.all_eq_true.2 fun t ht=>h3 t (List.mem_range.1 ht)]
theorem c31 (m n : List (List (P4 × Int))) (H:PH) (u v:Value) (hu:MatH H u m) (hv:MatH H v n):Cl Tryz.prog 115 [u,v] H emp fun r _ _=>r=.tuple #[.bool (if errsM [m,n]=0 then equalR m n else false),.int .i64 (errsM [m,n])]:=by
  refine Cl_of (pol:=polL) Γok Tryz.func115 (by kernel_rfl) rfl ?_
  conv=>whnf
  refine (c95 m n _ _ _ hu hv).val fun H1 s1=>?_
  rw[bothR_eq]
  conv=>whnf
  refine if_intro (fun he=>?_) (fun he=>?_)
  · conv=>whnf
    rw[if_neg (show ¬ errsM [m,n]=0 by simpa using he)]
  · have he:errsM [m,n]=0:=by simpa using he
    have hz:=firstErr_zero he
    rw[he,if_pos rfl]
    conv=>whnf
    refine (c96 m n (hz _ (by simp)) (hz _ (by simp)) _ _ _ (hu.up s1) (hv.up s1)).val fun H2 s2=>?_
    conv=>whnf
end Go.Proofs.YtgbhgfdgifkdhaaGreat

namespace Go.Proofs.YtgbhgfdgifkdhaaGreat
open Go.Proofs.YtgbhgfdgifkdhaaGreat.X Go.Proofs.YtgbhgfdgifkdhaaGreat.X.PH
set_option maxRecDepth 100000
def samePl (m n : List (List (P4 × Int))) (t:Nat):Bool:=
  eqN (LeastF (entry m (t / wideM m) (t % wideM m)).1 (entry m (t / wideM m) (t % wideM m)).2).1 (LeastF (entry n (t / wideM m) (t % wideM m)).1 (entry n (t / wideM m) (t % wideM m)).2).1
theorem c103 (m n : List (List (P4 × Int))) (rm:Right m) (rn:Right n) (ha:alikeF m n=true) (H:PH) (u v:Value) (hu:MatH H u m) (hv:MatH H v n):Cl Tryz.prog 204 [u,v] H emp fun r _ _=>r=.bool ((List.range (m.length*wideM m)).all (samePl m n)):=by
  obtain⟨e1,e2⟩:=alike_iff ha
  obtain⟨base,cap,rfl⟩:=hu.sl
  obtain⟨base',cap',rfl⟩:=hv.sl
  refine Cl_of (pol:=polL) Γok Tryz.func204 (by kernel_rfl) rfl ?_
  conv=>whnf
  repeat (intro _;conv=>whnf)
  refine (c92 (m.map List.length) _ _ (by simp;have:=rm.le;omega) (fun n hn=>by obtain⟨r,hr,rfl⟩:=List.mem_map.1 hn;have:=rm.row r hr;have:=rm.wle;omega) hu.shape).use fun it H1 s1 hit=>?_
  obtain⟨_,hit⟩:=hit
  rw[rm.lens] at hit
  conv=>whnf
  refine W_range (pol:=polL) Γok (placesN 0 (List.replicate m.length (wideM m))) hit Unit (fun t _ H6=>Sub H1 H6∧∀ q,q < t→samePl m n q=true) (fun e _ _=>e=.ret∧(List.range (m.length*wideM m)).all (samePl m n)=false) (fun _=>[]) (fun _=>emp) (fun _ _ _ _ hs h=>⟨h.1.trans hs,h.2⟩) (fun _ _ _ _ hs h=>h) ⟨(),⟨Sub.refl _,by simp⟩,rfl,?_⟩ ?_ ?_ ?_
  · conv=>whnf
  · rintro t x hx ⟨⟩ H6 s6 ⟨t1,t2⟩ l o o' hl
    have hlt:t < m.length*wideM m:=by
      rw[← placesN_uniform_length m.length (wideM m)]
      exact (List.getElem?_eq_some_iff.1 hx).1
    obtain⟨g1,g2,g3⟩:=placesN_uniform hlt
    rw[g3] at hx
    cases hx
    have r1:=rm.row _ (List.getElem_mem g1)
    have g1':t / wideM m < n.length:=by omega
    have r2:=rn.row _ (List.getElem_mem g1')
    have hs:samePl m n t=eqN (LeastF (m[t / wideM m][t % wideM m]'(by omega)).1 (m[t / wideM m][t % wideM m]'(by omega)).2).1 (LeastF (n[t / wideM m][t % wideM m]'(by omega)).1 (n[t / wideM m][t % wideM m]'(by omega)).2).1:=by
      unfold samePl
      rw[entry_get g1 (by omega),entry_get g1' (by omega)]
    conv=>whnf
    intro b9
    conv=>whnf
    refine⟨rfl,?_⟩
    conv=>whnf
    refine⟨emp,rfl,?_⟩
    conv=>whnf
    refine (c84 m _ _ g1 (by omega) _ _ ((hu.up s1).up t1)).val fun H7 s7=>?_
    conv=>whnf
    refine (c83 (m[t / wideM m][t % wideM m]'(by omega)).1 (m[t / wideM m][t % wideM m]'(by omega)).2 _).val fun H8 s8=>?_
    conv=>whnf
    intro b10
    conv=>whnf
    refine (c84 n _ _ g1' (by omega) _ _ ((((hv.up s1).up t1).up s7).up s8)).val fun H9 s9=>?_
    conv=>whnf
    refine (c83 (n[t / wideM m][t % wideM m]'(by omega)).1 (n[t / wideM m][t % wideM m]'(by omega)).2 _).val fun H10 s10=>?_
    conv=>whnf
    intro b12
    conv=>whnf
    refine if_intro (fun hq=>?_) (fun hq=>?_)
    · conv=>whnf
      have hq:samePl m n t=false:=by rw[hs];exact Bool.not_eq_true' _ |>.mp hq
      refine⟨(),.inr ⟨⟨rfl,?_⟩,rfl⟩,rfl,rfl,?_⟩
      · rw[List.all_eq_false]
        exact⟨t,List.mem_range.2 hlt,by rw[hq];simp⟩
      conv=>whnf
      repeat (refine⟨rfl,?_⟩;conv=>whnf)
      exact trivial
    · conv=>whnf
      have hq:samePl m n t=true:=by rw[hs];exact Bool.not_eq_false' .. |>.mp hq
      refine⟨(),.inl ⟨rfl,t1.trans (s7.trans (s8.trans (s9.trans s10))),fun q hqt=>?_⟩,rfl,rfl,?_⟩
      · rcases Nat.lt_or_ge q t with h | h
        · exact t2 q h
        · rw[show q=t by omega];exact hq
      conv=>whnf
      repeat (refine⟨rfl,?_⟩;conv=>whnf)
      exact trivial
  · rintro ⟨⟩ H6 s6 ⟨t1,t2⟩
    conv=>whnf
    rw[placesN_uniform_length] at t2
    rw[show (List.range (m.length*wideM m)).all (samePl m n)=true from List.all_eq_true.2 fun q hq=>t2 q (List.mem_range.1 hq)]
  · rintro e ⟨⟩ H6 s6 ⟨rfl,h⟩
    conv=>whnf
    rw[h]
def sameF (m n : List (List (P4 × Int))):Bool:=alikeF m n && (List.range (m.length*wideM m)).all (samePl m n)
theorem c33 (m n : List (List (P4 × Int))) (hlm:m.length < 1000000) (hln:n.length < 1000000) (H:PH) (u v:Value) (hu:MatH H u m) (hv:MatH H v n):Cl Tryz.prog 117 [u,v] H emp fun r _ _=>r=.tuple #[.bool (if errsM [m,n]=0 then sameF m n else false),.int .i64 (errsM [m,n])]:=by
  obtain⟨base,cap,rfl⟩:=hu.sl
  obtain⟨base',cap',rfl⟩:=hv.sl
  refine Cl_of (pol:=fun | 9=>.imm | _=>.loc) Γok Tryz.func117 (by kernel_rfl) rfl ?_
  conv=>whnf
  intro b hb _
  conv=>whnf
  have s1:=sub_ins H (.cells ⟨[.slice base m.length cap,.slice base' n.length cap']⟩ 23 (0,0)) hb
  refine (c101 [m,n] (by simp) (by simp;omega) _ _ (pair_mats (ins_same _ _ _) (hu.up s1) (hv.up s1))).val fun H2 s2=>?_
  conv=>whnf
  refine if_intro (fun he=>?_) (fun he=>?_)
  · conv=>whnf
    rw[if_neg (show ¬ errsM [m,n]=0 by simpa using he)]
  · have he:errsM [m,n]=0:=by simpa using he
    obtain⟨rm,rn⟩:=rights_of he
    have hu2:=(hu.up s1).up s2
    have hv2:=(hv.up s1).up s2
    rw[he,if_pos rfl]
    conv=>whnf
    refine (c102 m n rm.pos rn.pos _ _ _ hu2 hv2).val fun H3 s3=>?_
    conv=>whnf
    unfold sameF
    refine if_intro (fun ha=>?_) (fun ha=>?_)
    · conv=>whnf
      refine (c103 m n rm rn ha _ _ _ (hu2.up s3) (hv2.up s3)).val fun H4 s4=>?_
      conv=>whnf
      rw[ha,Bool.true_and]
    · conv=>whnf
      rw[show alikeF m n=false from ha]
      rfl
def phAt (m n : List (List (P4 × Int))) (k t:Nat):Bool:=
  eqN (formR (entry m (t / wideM m) (t % wideM m)).1 (entry m (t / wideM m) (t % wideM m)).2) (formR (MulR (OmegaF k) (entry n (t / wideM m) (t % wideM m))).1.1 (MulR (OmegaF k) (entry n (t / wideM m) (t % wideM m))).1.2)
def allPhR (m n : List (List (P4 × Int))) (k:Nat):Bool:=(List.range (m.length*wideM m)).all (phAt m n k)
def PhaseR (m n : List (List (P4 × Int))):Int × Int:=
  if errsM [m,n] ≠ 0 then (0,errsM [m,n]) else if alikeF m n=false then (0,7) else match (List.range 8).find? (allPhR m n) with
    | some k=>(k,0)
    | none=>(0,6)
set_option maxHeartbeats 2000000 in
theorem c32 (m n : List (List (P4 × Int))) (hk2:∀ (k:Nat) (x:P4 × Int),k < 8→-9223372036854775808≤(MulR (OmegaF k) x).1.2∧(MulR (OmegaF k) x).1.2 < 9223372036854775808) (H:PH) (u v:Value) (hu:MatH H u m) (hv:MatH H v n):Cl Tryz.prog 116 [u,v] H emp fun r _ _=>r=.tuple #[.int .i64 (PhaseR m n).1,.int .i64 (PhaseR m n).2]:=by
  obtain⟨base,cap,rfl⟩:=hu.sl
  obtain⟨base',cap',rfl⟩:=hv.sl
  refine Cl_of (pol:=polL) Γok Tryz.func116 (by kernel_rfl) rfl ?_
  conv=>whnf
  refine (c95 m n _ _ _ hu hv).val fun H1 s1=>?_
  rw[bothR_eq]
  conv=>whnf
  unfold PhaseR
  refine if_intro (fun he=>?_) (fun he=>?_)
  · conv=>whnf
    rw[if_pos (show errsM [m,n] ≠ 0 by simpa using he)]
  have he:errsM [m,n]=0:=by simpa using he
  rw[if_neg (show ¬ errsM [m,n] ≠ 0 by simpa using he)]
  obtain⟨rm,rn⟩:=rights_of he
  have hz:=firstErr_zero he
  have hcm:checkMF m=0:=hz _ (by simp)
  have hle:=rm.le
  have hwle:=rm.wle
  conv=>whnf
  refine (c97 m n rm.pos rn.pos _ _ _ (hu.up s1) (hv.up s1)).val fun H2 s2=>?_
  conv=>whnf
  refine if_intro (fun ha=>?_) (fun ha=>?_)
  · conv=>whnf
    rw[if_pos (show alikeF m n=false by simpa using ha)]
  have ha:alikeF m n=true:=by simpa using ha
  rw[if_neg (show ¬ alikeF m n=false by rw[ha];simp)]
  obtain⟨e1,e2⟩:=alike_iff ha
  conv=>whnf
  refine W_loop (pol:=polL) Γok (Nat × PH) (fun i=>i.1≤8∧Sub H2 i.2∧∀ k,k < i.1→allPhR m n k=false) (fun i=>8 - i.1) (fun i=>[(7,.v (.int .i64 i.1))]) (fun _=>[]) (fun i=>i.2) (fun _=>emp) ⟨(0,H2),⟨by simp,Sub.refl _,by simp⟩,rfl,rfl,?_⟩ ?_
  · conv=>whnf
    repeat (refine⟨rfl,?_⟩;conv=>whnf)
    exact trivial
  · rintro ⟨k,H'⟩ ⟨h1,h2,h3⟩
    dsimp only at h1 h2 h3
    conv=>whnf
    refine if_intro (fun h=>?_) (fun h=>?_)
    · have hk:k < 8:=by simp at h;omega
      conv=>whnf
      have allsucc:∀ t:Nat,(List.range (t+1)).all (phAt m n k)=((List.range t).all (phAt m n k) && phAt m n k t):=fun t=>by
        rw[List.range_succ,List.all_append];simp
      refine W_loopX (pol:=polL) Γok (Nat × PH × Bool) (fun i=>i.1≤m.length∧Sub H2 i.2.1∧i.2.2=(List.range (i.1*wideM m)).all (phAt m n k)) (fun i=>m.length - i.1) (fun e i=>e=.exit 2∧Sub H2 i.2.1∧i.2.2=allPhR m n k) (fun i=>[(9,.v (.int .i64 i.1)),(8,.v (.bool i.2.2))]) (fun _=>[]) (fun i=>i.2.1) (fun _=>emp) ⟨(0,H',true),⟨by simp,h2,by simp⟩,rfl,rfl,?_⟩ ?_ ?_
      · conv=>whnf
        repeat (refine⟨rfl,?_⟩;conv=>whnf)
        exact trivial
      · rintro ⟨i,H3,b⟩ ⟨k1,k2,k3⟩
        dsimp only at k1 k2 k3
        conv=>whnf
        refine if_intro (fun h=>?_) (fun h=>?_)
        · have hi:i < m.length:=by simpa using h
          have hi':i < n.length:=by omega
          have r1:=rm.row _ (List.getElem_mem hi)
          have r2:=rn.row _ (List.getElem_mem hi')
          conv=>whnf
          refine W_loopX (pol:=polL) Γok (Nat × PH × Bool) (fun q=>q.1≤wideM m∧Sub H2 q.2.1∧q.2.2=(List.range (i*wideM m+q.1)).all (phAt m n k)) (fun q=>wideM m - q.1) (fun e q=>e=.exit 4∧Sub H2 q.2.1∧q.2.2=(List.range ((i+1)*wideM m)).all (phAt m n k)) (fun q=>[(10,.v (.int .i64 q.1)),(8,.v (.bool q.2.2))]) (fun _=>[]) (fun q=>q.2.1) (fun _=>emp) ⟨(0,H3,b),⟨by simp,k2,by simpa using k3⟩,rfl,rfl,?_⟩ ?_ ?_
          · conv=>whnf
            repeat (refine⟨rfl,?_⟩;conv=>whnf)
            exact trivial
          · rintro ⟨q,H4,b⟩ ⟨q1,q2,q3⟩
            dsimp only at q1 q2 q3
            have hu4:=((hu.up s1).up s2).up q2
            have hv4:=((hv.up s1).up s2).up q2
            obtain⟨bu,ou,ru,cu,hbu,hru,_⟩:=hu4.rd (O:=emp) hi
            subst hbu
            conv=>whnf
            refine dec_intro (by omega) ?_
            conv=>whnf
            refine⟨_,hru,?_⟩
            conv=>whnf
            refine if_intro (fun h=>?_) (fun h=>?_)
            · have hq:q < wideM m:=by simp at h;omega
              have hqm:q < m[i].length:=by omega
              have hqn:q < n[i].length:=by omega
              obtain⟨b0,off,b',off',cu',hb0,p1,p2⟩:=hu4.row' hi hqm
              obtain⟨b1,off1,b1',off1',cv',hb1,p3,p4⟩:=hv4.row' hi' hqn
              cases hb0
              subst hb1
              have hdm:=divmod (i:=i) hq
              have hph:phAt m n k (i*wideM m+q)=eqN (formR m[i][q].1 m[i][q].2) (formR (MulR (OmegaF k) n[i][q]).1.1 (MulR (OmegaF k) n[i][q]).1.2):=by
                unfold phAt
                rw[hdm.1,hdm.2,entry_get hi hqm,entry_get hi' hqn]
              have fin:∀ (H5:PH) (c:Bool),Sub H4 H5→c=(b && phAt m n k (i*wideM m+q))→(q+1≤wideM m∧Sub H2 H5∧c=(List.range (i*wideM m+(q+1))).all (phAt m n k)):=fun H5 c s5 hc=>⟨hq,q2.trans s5,by rw[hc,q3,show i*wideM m+(q+1)=(i*wideM m+q)+1 by omega,allsucc]⟩
              conv=>whnf
              refine W_draw (pol:=polL) Γok mixes [(0,.pendO),(2,.pend),(3,.pend),(4,.pend),(5,.pend),(6,.pend),(7,.pend),(8,.pend),(1,.lock),(9,.lock),(10,.pendO),(11,.pendO),(12,.pendH),(13,.late),(14,.lock),(15,.pendO)] 69 (by kernel_rfl) rfl ?_
              conv=>whnf
              refine dec_intro (by omega) ?_
              conv=>whnf
              refine⟨_,p3 _,?_⟩
              conv=>whnf
              refine dec_intro (by omega) ?_
              conv=>whnf
              refine⟨_,p4 _,?_⟩
              conv=>whnf
              refine (c99 k hk _).val fun H5 s5=>?_
              conv=>whnf
              refine (c98 (OmegaF k) n[i][q] _).val fun H6 s6=>?_
              conv=>whnf
              intro bx
              conv=>whnf
              refine W_draw (pol:=polL) Γok mixes [(0,.pendO),(1,.pendO),(2,.pendO),(3,.pendO),(4,.pendO),(5,.pendO),(6,.pendO),(7,.pendO),(8,.pendO),(9,.pendO),(10,.lock),(11,.pendO),(12,.lock)] 69 (by kernel_rfl) rfl ?_
              conv=>whnf
              have ss:=s5.trans s6
              cases b with
              | false=>
                conv=>whnf
                refine⟨(q+1,H6,false),fin H6 false ss (by simp),by dsimp only;omega,?_⟩
                conv=>whnf
                refine⟨rfl,rfl,?_⟩
                conv=>whnf
                repeat (refine⟨rfl,?_⟩;conv=>whnf)
                refine⟨by show En.v (.int .i64 (IntKind.i64.wrap (q+1)))=_;rw[wrap_id (by omega) (by omega)];rfl,?_⟩
                conv=>whnf
                repeat (refine⟨rfl,?_⟩;conv=>whnf)
                exact trivial
              | true=>
                conv=>whnf
                refine dec_intro (by dsimp only;omega) ?_
                conv=>whnf
                obtain⟨b2,off2,b2',off2',cu2,hb2,p5,p6⟩:=(hu4.up ss).row' hi hqm
                cases hb2
                refine⟨_,p5 _,?_⟩
                conv=>whnf
                refine dec_intro (by dsimp only;omega) ?_
                conv=>whnf
                refine⟨_,p6 _,?_⟩
                conv=>whnf
                refine (c100 m[i][q] (MulR (OmegaF k) n[i][q]).1 (right_k hcm hi hqm) (hk2 k _ hk) _).val fun H7 s7=>?_
                conv=>whnf
                refine⟨(q+1,H7,eqN (formR m[i][q].1 m[i][q].2) (formR (MulR (OmegaF k) n[i][q]).1.1 (MulR (OmegaF k) n[i][q]).1.2)),fin H7 _ (ss.trans s7) (by rw[hph];simp),by dsimp only;omega,?_⟩
                conv=>whnf
                refine⟨rfl,rfl,?_⟩
                conv=>whnf
                repeat (refine⟨rfl,?_⟩;conv=>whnf)
                refine⟨by show En.v (.int .i64 (IntKind.i64.wrap (q+1)))=_;rw[wrap_id (by omega) (by omega)];rfl,?_⟩
                conv=>whnf
                repeat (refine⟨rfl,?_⟩;conv=>whnf)
                exact trivial
            · have hq:q=wideM m:=by simp at h;omega
              conv=>whnf
              refine .inr ⟨(q,H4,b),⟨rfl,q2,by rw[q3,hq,Nat.succ_mul]⟩,?_⟩
              conv=>whnf
              refine⟨rfl,rfl,?_⟩
              conv=>whnf
              repeat (refine⟨rfl,?_⟩;conv=>whnf)
              exact trivial
          · rintro e ⟨q,H4,b⟩ ⟨rfl,q2,q3⟩
            dsimp only at q2 q3
            conv=>whnf
            refine⟨(i+1,H4,b),⟨hi,q2,q3⟩,by dsimp only;omega,?_⟩
            conv=>whnf
            refine⟨rfl,rfl,?_⟩
            conv=>whnf
            repeat (refine⟨rfl,?_⟩;conv=>whnf)
            refine⟨by show En.v (.int .i64 (IntKind.i64.wrap (i+1)))=_;rw[wrap_id (by omega) (by omega)];rfl,?_⟩
            conv=>whnf
            repeat (refine⟨rfl,?_⟩;conv=>whnf)
            exact trivial
        · have hi:i=m.length:=by simp at h;omega
          conv=>whnf
          refine .inr ⟨(i,H3,b),⟨rfl,k2,by rw[k3,hi];rfl⟩,?_⟩
          conv=>whnf
          refine⟨rfl,rfl,?_⟩
          conv=>whnf
          repeat (refine⟨rfl,?_⟩;conv=>whnf)
          exact trivial
      · rintro e ⟨i,H3,b⟩ ⟨rfl,k2,k3⟩
        dsimp only at k2 k3
        conv=>whnf
        refine if_intro (fun hb=>?_) (fun hb=>?_)
        · conv=>whnf
          have hf:(List.range 8).find? (allPhR m n)=some k:=by
            rw[List.find?_range_eq_some]
            refine⟨by rw[← k3];exact hb,by simpa using hk,fun j hj=>?_⟩
            rw[h3 j hj]
            rfl
          rw[hf]
        · conv=>whnf
          refine⟨(k+1,H3),⟨hk,k2,fun j hj=>?_⟩,by dsimp only;omega,?_⟩
          · rcases Nat.lt_or_ge j k with h | h
            · exact h3 j h
            · rw[show j=k by omega,← k3];exact hb
          conv=>whnf
          refine⟨rfl,rfl,?_⟩
          conv=>whnf
          repeat (refine⟨rfl,?_⟩;conv=>whnf)
          refine⟨by show En.v (.int .i64 (IntKind.i64.wrap (k+1)))=_;rw[wrap_id (by omega) (by omega)];rfl,?_⟩
          conv=>whnf
          repeat (refine⟨rfl,?_⟩;conv=>whnf)
          exact trivial
    · conv=>whnf
      have hi:k=8:=by simp at h;omega
      subst hi
      have hf:(List.range 8).find? (allPhR m n)=none:=by
        rw[List.find?_eq_none]
        intro k hk
        rw[h3 k (List.mem_range.1 hk)]
        simp
      rw[hf]
end Go.Proofs.YtgbhgfdgifkdhaaGreat

namespace Go.Proofs.YtgbhgfdgifkdhaaGreat
open Go.Proofs.YtgbhgfdgifkdhaaGreat.X Go.Proofs.YtgbhgfdgifkdhaaGreat.X.PH
set_option maxRecDepth 100000
theorem c136 (vs : List Value) (q:Nat→Bool) (hlen:vs.length < 1000000) (H:PH) (v f:Value) (hv:SlH H v vs.length vs) (hf:∀ (i:Nat) x,vs[i]?=some x→Does Tryz.prog H f [x] fun r _=>r=.bool (q i)):Cl Tryz.prog 188 [v,f] H emp fun r _ _=>∃ i:Int,r=.int .i64 i∧(decide (i ≥ 0)=(List.range vs.length).any q):=by
  obtain⟨base,cap,rfl,_⟩:=id hv
  refine Cl_of (pol:=polL) Γok Tryz.func188 (by kernel_rfl) rfl ?_
  conv=>whnf
  refine W_loop (pol:=polL) Γok (Nat × PH) (fun i=>i.1≤vs.length∧Sub H i.2∧∀ t,t < i.1→q t=false) (fun i=>vs.length - i.1) (fun i=>[(8,.v (.int .i64 i.1))]) (fun _=>[]) (fun i=>i.2) (fun _=>emp) ⟨(0,H),⟨by simp,Sub.refl _,by simp⟩,rfl,rfl,?_⟩ ?_
  · conv=>whnf
    repeat (refine⟨rfl,?_⟩;conv=>whnf)
    exact trivial
  · rintro ⟨i,H'⟩ ⟨h1,h2,h3⟩
    dsimp only at h1 h2 h3
    conv=>whnf
    refine if_intro (fun h=>?_) (fun h=>?_)
    · have hi:i < vs.length:=by simpa using h
      obtain⟨b,off,rfl,hrd⟩:=SlH.one (O:=emp) (hv.up h2) rfl hi
      conv=>whnf
      refine dec_intro (by omega) ?_
      conv=>whnf
      refine⟨_,hrd,?_⟩
      conv=>whnf
      refine ((hf i _ (List.getElem?_eq_getElem hi)).up h2).use fun r H2 s2 hr=>?_
      subst hr
      conv=>whnf
      refine if_intro (fun he=>?_) (fun he=>?_)
      · conv=>whnf
        refine⟨i,rfl,?_⟩
        rw[show (List.range vs.length).any q=true from List.any_eq_true.2 ⟨i,List.mem_range.2 hi,he⟩]
        simp
      · conv=>whnf
        refine⟨(i+1,H2),⟨hi,h2.trans s2,fun t ht=>?_⟩,by dsimp only;omega,?_⟩
        · rcases Nat.lt_or_ge t i with h | h
          · exact h3 t h
          · rw[show t=i by omega];exact he
        · conv=>whnf
          refine⟨rfl,rfl,?_⟩
          conv=>whnf
          repeat (refine⟨rfl,?_⟩;conv=>whnf)
          refine⟨by show En.v (.int .i64 (IntKind.i64.wrap (i+1)))=_;rw[wrap_id (by omega) (by omega)];rfl,?_⟩
          conv=>whnf
          repeat (refine⟨rfl,?_⟩;conv=>whnf)
          exact trivial
    · conv=>whnf
      have hi:i=vs.length:=by simp at h;omega
      subst hi
      refine⟨_,rfl,?_⟩
      rw[show (List.range vs.length).any q=false from List.any_eq_false.2 fun t ht=>by rw[h3 t (List.mem_range.1 ht)];simp]
      decide
theorem c66 (vs : List Value) (q:Nat→Bool) (hlen:vs.length < 1000000) (H:PH) (v f:Value) (hv:SlH H v vs.length vs) (hf:∀ (i:Nat) x,vs[i]?=some x→Does Tryz.prog H f [x] fun r _=>r=.bool (q i)):Cl Tryz.prog 100 [v,f] H emp fun r _ _=>r=.bool ((List.range vs.length).any q):=by
  refine Cl_of (pol:=polL) Γok Tryz.func100 (by kernel_rfl) rfl ?_
  conv=>whnf
  refine (c136 vs q hlen _ _ _ hv hf).use fun r H1 s1 hr=>?_
  obtain⟨_,i,rfl,hi⟩:=hr
  conv=>whnf
  rw[hi]
theorem c67 (m : List (List (P4 × Int))) (hlen:m.length < 9223372036854775808) (H:PH) (v:Value) (hv:MatH H v m):Cl Tryz.prog 101 [v] H emp fun r _ _=>r=.bool (greatF m 8):=by
  refine Cl_of (pol:=polL) Γok Tryz.func101 (by kernel_rfl) rfl ?_
  conv=>whnf
  refine (c26 m 8 _ _ hv hlen).val fun H1 s1=>?_
  conv=>whnf
def bigF (ms : List (List (List (P4 × Int)))):Bool:=(List.range ms.length).any fun i=>greatF (ms.getD i []) 8
theorem c13 (ms : List (List (List (P4 × Int)))) (hlen:ms.length < 1000000) (hrow:∀ m∈ms,m.length < 9223372036854775808) (H:PH) (v:Value) (hv:MatsH H v ms):Cl Tryz.prog 37 [v] H emp fun r _ _=>r=.bool (bigF ms):=by
  obtain⟨vs,h1,h2,h3⟩:=hv
  rw[← h1] at h2
  refine Cl_of (pol:=polL) Γok Tryz.func37 (by kernel_rfl) rfl ?_
  conv=>whnf
  refine (c66 vs (fun i=>greatF (ms.getD i []) 8) (by omega) _ _ _ h2 (fun i x hx=>⟨101,[],[],rfl,fun H' hs=>?_⟩)).val fun H1 s1=>?_
  · have hlt:=(List.getElem?_eq_some_iff.1 hx).1
    have hi:i < ms.length:=by omega
    rw[show ms.getD i []=ms[i] by simp[List.getD_eq_getElem?_getD,hi]]
    exact c67 _ (hrow _ (List.getElem_mem hi)) H' _ ((h3 i _ x (List.getElem?_eq_getElem hi) hx).up hs)
  · conv=>whnf
    unfold bigF
    rw[h1]
theorem big_le {ms : List (List (List (P4 × Int)))} (h:bigF ms=false):∀ m∈ms,m.length≤8∧∀ r∈m,r.length≤8:=by
  intro m hm
  obtain⟨i,hi,rfl⟩:=List.getElem_of_mem hm
  unfold bigF at h
  have:=List.any_eq_false.1 h i (List.mem_range.2 hi)
  rw[show ms.getD i []=ms[i] by simp[List.getD_eq_getElem?_getD,hi]] at this
  obtain⟨g1,g2⟩:=great_le (n:=8) (by simpa using this)
  exact⟨by omega,fun r hr=>by have:=g2 r hr;omega⟩
end Go.Proofs.YtgbhgfdgifkdhaaGreat
