/- A logic for code of the model, proved sound, and what functions do that the laws on matrices come to; nothing is asked. Part 6. -/
import Derived.Test.YtodmckckapmmoaaGreatDoorM5

set_option linter.unusedVariables false
set_option linter.unusedSimpArgs false
set_option linter.unnecessarySimpa false

namespace Go.Proofs.YtodmckckapmmoaaGreatDoor
open Go.Proofs.YtodmckckapmmoaaGreatDoor.X Go.Proofs.YtodmckckapmmoaaGreatDoor.X.PH
set_option maxRecDepth 100000
def partK (m : Mx) (w:Nat) (x:Int) (N:Nat):Nat→Mx
  | 0=>m.map formsR
  | n+1=>if (keepD (n / N) w x && keepD (n % N) w x)=true then partK m w x N n else setM (partK m w x N n) (n / N) (n % N) (P4.zero,0)
theorem partK_shape {m : Mx} {w:Nat} {x:Int} {N:Nat} (h1:m.length=N) (h2:∀ r∈m,r.length=N):∀ n,(partK m w x N n).length=N∧∀ (i:Nat) r,(partK m w x N n)[i]?=some r→r.length=N
  | 0=>by
    refine⟨by simp[partK,h1],fun i r hr=>?_⟩
    obtain⟨r',hr',rfl⟩:=List.mem_map.1 (List.mem_of_getElem? hr)
    simp[formsR,h2 r' hr']
  | n+1=>by
    obtain⟨a,b⟩:=partK_shape (w:=w) (x:=x) h1 h2 n
    unfold partK
    split
    · exact⟨a,b⟩
    · exact setM_shape a b _ _ _
theorem partK_entry {m : Mx} {w:Nat} {x:Int} {N:Nat} (h1:m.length=N) (h2:∀ r∈m,r.length=N):∀ n,n≤N*N→∀ i k,i < N→k < N →
    entry (partK m w x N n) i k=if i*N+k < n∧(keepD i w x && keepD k w x)=false then (P4.zero,0) else formR (entry m i k).1 (entry m i k).2
  | 0,_,i,k,hi,hk=>by
    rw[if_neg (by omega)]
    have hk':k < (m[i]'(by omega)).length:=by rw[h2 _ (List.getElem_mem _)];exact hk
    exact forms_entry m (by omega) hk'
  | n+1,hn,i,k,hi,hk=>by
    have ih:=partK_entry (w:=w) (x:=x) h1 h2 n (by omega) i k hi hk
    obtain⟨s1,s2⟩:=partK_shape (w:=w) (x:=x) h1 h2 n
    have hN:0 < N:=by omega
    have e1:n / N < N:=Nat.div_lt_of_lt_mul (by omega)
    have e2:n % N < N:=Nat.mod_lt _ hN
    have hdm:n=n / N*N+n % N:=by rw[Nat.mul_comm];exact (Nat.div_add_mod n N).symm
    have key:i*N+k=n ↔ i=n / N∧k=n % N:=by
      constructor
      · intro e
        rw[← e,(divmod hk).1,(divmod hk).2]
        exact⟨rfl,rfl⟩
      · rintro ⟨rfl,rfl⟩
        exact hdm.symm
    unfold partK
    split
    · rename_i hk'
      rw[ih]
      by_cases e:i*N+k=n
      · obtain⟨rfl,rfl⟩:=key.1 e
        rw[hk',if_neg (by simp),if_neg (by simp)]
      · have:(i*N+k < n)=(i*N+k < n+1):=propext (by omega)
        simp only[this]
    · rename_i hk'
      rw[entry_set s1 s2 _ e1 e2]
      by_cases e:i*N+k=n
      · obtain⟨rfl,rfl⟩:=key.1 e
        rw[if_pos ⟨rfl,rfl⟩,if_pos ⟨by omega,by simpa using hk'⟩]
      · rw[if_neg (fun h=>e (key.2 h)),ih]
        have:(i*N+k < n)=(i*N+k < n+1):=propext (by omega)
        simp only[this]
theorem partK_all {m : Mx} {w:Nat} {x:Int} {N:Nat} (hc:checkMF m=0) (h1:m.length=N) (hw:wideM m=N):partK m w x N (N*N)=keptM m w x:=by
  have rm:=right_of hc
  have h2:∀ r∈m,r.length=N:=fun r hr=>by rw[← hw];exact rm.row r hr
  obtain⟨s1,s2⟩:=partK_shape (w:=w) (x:=x) h1 h2 (N*N)
  have g:=gridM_shape (keptAt m w x) N N
  unfold keptM
  rw[h1]
  refine mat_ext s1 s2 g.1 g.2 fun i k hi hk=>?_
  rw[partK_entry h1 h2 _ (Nat.le_refl _) i k hi hk,gridM_entry _ hi hk]
  have hc':=entry_right hc (i:=i) (k:=k) (by omega) (by omega)
  unfold keptAt
  rw[LeastF_eq hc']
  cases (keepD i w x && keepD k w x) with
  | false=>rw[if_pos ⟨sq_lt hi hk,rfl⟩,if_neg (by simp)]
  | true=>rw[if_neg (by simp),if_pos rfl]
theorem keep_cond {i w : Nat} (hi:i < 64) (hw:w < 6) (x:Int):(andI (shrI (i:Int) (w:Int)) 1 == x)=keepD i w x:=by
  rw[bit_cond hi hw]
  rfl
set_option maxHeartbeats 2000000 in
theorem e85 (m : Mx) (w:Nat) (x:Int) (hc:checkMF m=0) (N:Nat) (hN:N≤16) (h1:m.length=N) (hwd:wideM m=N) (hw:w < 6) (H:PH) (u:Value) (hu:MatH H u m) :
    Cl Tryz.prog 85 [u,.int .i64 w,.int .i64 x] H emp fun r _ M'=>OwnM M' r N N (keptM m w x):=by
  have rm:=right_of hc
  have h2:∀ r∈m,r.length=N:=fun r hr=>by rw[← hwd];exact rm.row r hr
  rw[← partK_all hc h1 hwd]
  obtain⟨ub,uc,rfl⟩:=MatH.sl hu
  refine Cl_of (pol:=polL) Γok Tryz.func85 (by kernel_rfl) rfl ?_
  conv=>whnf
  intro bw
  conv=>whnf
  intro bx
  conv=>whnf
  refine (c28 m (by omega) _ _ hu).mono fun r H2 M2 s2 hr=>?_
  obtain⟨_,w0,rfl,hown⟩:∃ _:True,∃ w0,r=.tuple #[w0,.int .i64 0]∧OwnM M2 w0 N N (m.map formsR):=by
    rcases hr with⟨h,_⟩ | ⟨_,w0,h,h'⟩
    · rw[← checkMF_checkMR] at h;exact absurd hc h
    · rw[show (m.headD []).length=N from hwd,h1] at h'
      exact⟨trivial,w0,h,h'⟩
  obtain⟨bs,b0,rfl,hrows⟩:=hown.ownB
  conv=>whnf
  intro b7
  conv=>whnf
  rw[h1]
  refine (e67 N (by omega) _).use fun it H3 s3 hit=>?_
  obtain⟨_,hit⟩:=hit
  conv=>whnf
  refine W_range (pol:=polL) Γok (placesN 0 (List.replicate N N)) hit PH (fun n O _=>OwnB O bs b0 N N (partK m w x N n)) (fun _ _ _=>False) (fun _=>[]) (fun O=>O) (fun _ _ _ _ _ h=>h) (fun _ _ _ _ _ h=>h) ⟨M2,hrows,rfl,?_⟩ ?_ ?_ ?_
  · conv=>whnf
  · rintro n y hy O H' hs' hrw q o o' hq
    have hlt:n < N*N:=by
      rw[← placesN_uniform_length N N]
      exact (List.getElem?_eq_some_iff.1 hy).1
    obtain⟨g1,g2,g3⟩:=placesN_uniform hlt
    rw[g3] at hy
    cases hy
    have hst:partK m w x N (n+1)=if (keepD (n / N) w x && keepD (n % N) w x)=true then partK m w x N n else setM (partK m w x N n) (n / N) (n % N) (P4.zero,0):=rfl
    conv=>whnf
    intro b9
    conv=>whnf
    refine⟨rfl,?_⟩
    conv=>whnf
    refine⟨O,rfl,?_⟩
    conv=>whnf
    refine W_draw (pol:=polL) Γok mixes [(0,.pendO),(1,.pendO),(2,.pendO),(3,.pendO),(4,.pendO),(5,.pendO),(6,.pendO),(7,.pendO),(8,.pendO),(9,.pendO),(10,.pendO),(11,.late),(12,.lock)] 46 (by kernel_rfl) rfl ?_
    conv=>whnf
    intro b10
    conv=>whnf
    have hb:eqCells [.int .i64 (andI (shrI ((n / N:Nat):Int) (w:Int)) 1),.int .i64 (andI (shrI ((n % N:Nat):Int) (w:Int)) 1)] [.int .i64 x,.int .i64 x]=(keepD (n / N) w x && keepD (n % N) w x):=by
      show (((andI (shrI ((n / N:Nat):Int) (w:Int)) 1) == x) && (((andI (shrI ((n % N:Nat):Int) (w:Int)) 1) == x) && true))=_
      rw[keep_cond (by omega) hw,keep_cond (by omega) hw,Bool.and_true]
    refine if_intro (fun he=>?_) (fun he=>?_)
    · have he:(!(keepD (n / N) w x && keepD (n % N) w x))=true:=by rw[← hb];exact he
      rw[if_neg (by intro h;rw[h] at he;cases he)] at hst
      have hq0:b0 ≠ q:=fun e=>by rw[← e] at hq;rw[hrw.list] at hq;cases hq
      obtain⟨br,row,hb1,hr1,hrl,hne0,hOb,hRd⟩:=hrw.rowI (O:=ins O q o') (ins_ne _ _ hq0) g1 H'
      have hbl:br ≠ q:=fun e=>by rw[e,hq] at hOb;cases hOb
      conv=>whnf
      refine W_draw (pol:=polL) Γok mixes [(0,.pendO),(1,.pendO),(2,.pendO),(3,.pendO),(4,.pendO),(5,.pendO),(6,.pendO),(7,.pendO),(8,.pendO),(9,.lock)] 46 (by kernel_rfl) rfl ?_
      conv=>whnf
      refine dec_intro (by omega) ?_
      conv=>whnf
      refine⟨_,hRd,?_⟩
      conv=>whnf
      refine dec_intro (by omega) ?_
      conv=>whnf
      refine⟨_,_,(ins_ne _ _ hbl).trans hOb,?_,?_⟩
      · show _≤(cellsN _).length
        rw[cellsN_length,hrl]
        simp only[Int.toNat_natCast,List.length_cons,List.length_nil]
        omega
      conv=>whnf
      refine⟨ins O br (.cells ⟨(cellsN row).take (0+(n % N)*5)++cellsOf (P4.zero,0)++(cellsN row).drop (0+(n % N)*5+5)⟩ 25 (0,0)),.inl ⟨rfl,?_⟩,?_,?_,?_⟩
      · rw[hst]
        exact hrw.set hb1 hr1 g2 _
      · rw[ins_ne _ _ hbl.symm];exact hq
      · rw[ins_comm O _ _ hbl]
        rfl
      conv=>whnf
      repeat (refine⟨rfl,?_⟩;conv=>whnf)
      exact trivial
    · have he:(!(keepD (n / N) w x && keepD (n % N) w x))=false:=by rw[← hb];exact he
      rw[if_pos (by simpa using he)] at hst
      conv=>whnf
      refine⟨O,.inl ⟨rfl,?_⟩,hq,rfl,?_⟩
      · rw[hst]
        exact hrw
      conv=>whnf
      repeat (refine⟨rfl,?_⟩;conv=>whnf)
      exact trivial
  · intro O H' hs' hrw
    rw[placesN_uniform_length] at hrw
    conv=>whnf
    exact hrw.ownM
  · intro e O H' hs' hf
    exact hf.elim
end Go.Proofs.YtodmckckapmmoaaGreatDoor

namespace Go.Proofs.YtodmckckapmmoaaGreatDoor
open Go.Proofs.YtodmckckapmmoaaGreatDoor.X Go.Proofs.YtodmckckapmmoaaGreatDoor.X.PH
set_option maxRecDepth 100000
structure GM (O : PH) (v:Value) (us:List Value) (rows:Mx) (ob:Option Nat) (obs:List (Option Nat)):Prop where
  head:OwnA O 1 22 v (us.map fun u=>[u]) ob
  l1:us.length=rows.length
  l2:obs.length=rows.length
  row:∀ (i:Nat) u r a,us[i]?=some u→rows[i]?=some r→obs[i]?=some a→VecA O u r a
  ap:∀ (i j:Nat) a b,obs[i]?=some a→obs[j]?=some b→i ≠ j→Ap a b
  hp:∀ (i:Nat) a,obs[i]?=some a→Ap ob a
theorem GM.nil (O : PH):GM O (.slice none 0 0) [] [] none []:=
  ⟨OwnA.nil _ _ _,rfl,rfl,fun i u r a h=>by simp at h,fun i j a b h=>by simp at h,fun i a h=>by simp at h⟩
theorem OwnS.toA {O : PH} {sz:Nat} {t:TypeId} {v:Value} {xs:List (List Value)} (h:OwnS O sz t v xs):∃ ob,OwnA O sz t v xs ob:=by
  obtain⟨h1,h2⟩:=h
  rcases h2 with⟨h,h'⟩ | ⟨b,cap,sp,h,q⟩
  · exact⟨none,h1,.inl ⟨rfl,h,h'⟩⟩
  · exact⟨some b,h1,.inr ⟨b,cap,sp,rfl,h,q⟩⟩
theorem get_snoc {α : Type} {l:List α} {x y:α} {i:Nat} (h:(l++[x])[i]?=some y):l[i]?=some y∨(i=l.length∧x=y):=by
  rcases Nat.lt_trichotomy i l.length with hi | hi | hi
  · rw[List.getElem?_append_left hi] at h
    exact .inl h
  · subst hi
    simp at h
    exact .inr ⟨rfl,h⟩
  · rw[List.getElem?_eq_none (by simp;omega)] at h
    cases h
theorem some_lt {α : Type} {l:List α} {i:Nat} {x:α} (h:l[i]?=some x):i < l.length:=(List.getElem?_eq_some_iff.1 h).1
theorem GM.snoc {O O1 O2 : PH} {v v2 u:Value} {us:List Value} {rows:Mx} {ob:Option Nat} {obs:List (Option Nat)} {r:Vec} {a:Option Nat} {b:Nat} (h:GM O v us rows ob obs) (hs:Sub O O1) (hr:VecA O1 u r a) (hf:∀ n,a=some n→O n=none)
    (h2:OwnA O2 1 22 v2 ((us.map fun u=>[u])++[[u]]) (some b)) (hb:ob=some b∨O1 b=none) (hk:Keeps O1 O2 ob):GM O2 v2 (us++[u]) (rows++[r]) (some b) (obs++[a]):=by
  have hha:Ap ob a:=fun n hn ha=>by
    subst hn
    exact h.head.there (hf n ha)
  have old:∀ (i:Nat) c,obs[i]?=some c→∃ w q,VecA O w q c:=fun i c hc=>by
    have hi:=some_lt hc
    exact⟨_,_,h.row i _ _ c (List.getElem?_eq_getElem (by rw[h.l1,← h.l2];exact hi)) (List.getElem?_eq_getElem (by rw[← h.l2];exact hi)) hc⟩
  have oa:∀ (i:Nat) c,obs[i]?=some c→Ap c a:=fun i c hc n hn ha=>by
    obtain⟨w,q,hw⟩:=old i c hc
    subst hn
    exact OwnA.there hw (hf n ha)
  refine⟨?_,by simp[h.l1],by simp[h.l2],fun i w q c h3 h4 h5=>?_,fun i j c d h3 h4 hij=>?_,fun i c h3=>?_⟩
  · rw[List.map_append]
    exact h2
  · rcases get_snoc h5 with h5 | ⟨h6,rfl⟩
    · have hi:=some_lt h5
      rw[List.getElem?_append_left (by rw[h.l1,← h.l2];exact hi)] at h3
      rw[List.getElem?_append_left (by rw[← h.l2];exact hi)] at h4
      exact OwnA.keep (OwnA.up (h.row i w q c h3 h4 h5) hs) hk (h.hp i c h5)
    · subst h6
      rw[h.l2,← h.l1] at h3
      rw[h.l2] at h4
      simp at h3 h4
      subst h3 h4
      exact OwnA.keep hr hk hha
  · rcases get_snoc h3 with h3 | ⟨h3,rfl⟩<;>rcases get_snoc h4 with h4 | ⟨h4,rfl⟩
    · exact h.ap i j c d h3 h4 hij
    · exact oa i c h3
    · exact (oa j d h4).symm
    · omega
  · rcases get_snoc h3 with h3 | ⟨h3,rfl⟩
    · obtain⟨w,q,hw⟩:=old i c h3
      exact Ap.fresh (OwnA.up hw hs) (h.hp i c h3) hb
    · exact Ap.fresh hr hha hb
theorem GM.sl {O : PH} {v:Value} {us:List Value} {rows:Mx} {ob:Option Nat} {obs:List (Option Nat)} (h:GM O v us rows ob obs):∃ base cap,v=.slice base rows.length cap:=by
  obtain⟨b,c,e⟩:=OwnA.sl h.head
  rw[List.length_map,h.l1] at e
  exact⟨b,c,e⟩
theorem flat_ones : ∀ us:List Value,(us.map fun u=>[u]).flatten=us
  | []=>rfl
  | u::us=>by
    simp only[List.map_cons,List.flatten_cons,flat_ones us]
    rfl
theorem GM.at {O : PH} {v:Value} {us:List Value} {rows:Mx} {ob:Option Nat} {obs:List (Option Nat)} (h:GM O v us rows ob obs) {i k:Nat} (hi:i < rows.length) (hk:k < rows[i].length) :
    ∃ hb hc b c sp,v=.slice (some ⟨hb,0,none⟩) rows.length hc∧obs[i]?=some (some b)∧us[i]?=some (.slice (some ⟨b,0,none⟩) rows[i].length c)∧O b=some (.cells ⟨cellsN rows[i]++sp⟩ 25 (0,0)) ∧
      ∀ H,Rd H O ⟨hb,0+i*1,none⟩ 1 [.slice (some ⟨b,0,none⟩) rows[i].length c]:=by
  have hiu:i < us.length:=by rw[h.l1];exact hi
  have hio:i < obs.length:=by rw[h.l2];exact hi
  have hv:=h.row i _ _ _ (List.getElem?_eq_getElem hiu) (List.getElem?_eq_getElem hi) (List.getElem?_eq_getElem hio)
  rcases hv.2 with⟨_,_,h3⟩ | ⟨b,c,sp,h1,h2,h3,h4,h5⟩
  · have:rows[i].length=0:=by
      have:=congrArg List.length h3
      simpa using this
    omega
  rw[List.length_map] at h2 h4 h5
  rcases h.head.2 with⟨_,_,q3⟩ | ⟨hb,hc,hsp,q1,q2,q3,q4,q5⟩
  · have:us.length=0:=by
      have:=congrArg List.length q3
      simpa using this
    omega
  rw[List.length_map,h.l1] at q2
  rw[flat_ones] at q3
  refine⟨hb,hc,b,c,sp,q2,by rw[List.getElem?_eq_getElem hio,h1],by rw[List.getElem?_eq_getElem hiu,h2],h3,fun H=>⟨rfl,rfl,_,_,_,.inr q3,?_⟩⟩
  rw[Nat.zero_add,Nat.mul_one]
  show List.take 1 (List.drop i (us++hsp))=_
  rw[List.drop_append_of_le_length (by omega),List.drop_eq_getElem_cons hiu,h2]
  rfl
theorem GM.set {O : PH} {v:Value} {us:List Value} {rows:Mx} {ob:Option Nat} {obs:List (Option Nat)} (h:GM O v us rows ob obs) {i k b:Nat} (hi:i < rows.length) (hk:k < rows[i].length) (hob:obs[i]?=some (some b)) {sp:List Value} (hO:O b=some (.cells ⟨cellsN rows[i]++sp⟩ 25 (0,0))) (x:P4 × Int) :
    GM (ins O b (.cells ⟨(cellsN rows[i]++sp).take (0+k*5)++cellsOf x++(cellsN rows[i]++sp).drop (0+k*5+5)⟩ 25 (0,0))) v us (setM rows i k x) ob obs:=by
  have hl:=cellsN_length rows[i]
  have e1:(cellsN rows[i]++sp).take (0+k*5)++cellsOf x++(cellsN rows[i]++sp).drop (0+k*5+5)=cellsN (rows[i].set k x)++sp:=by
    rw[← cellsN_set rows[i] k x hk,List.take_append_of_le_length (by omega),List.drop_append_of_le_length (by omega)]
    simp
  rw[e1]
  have hk':Keeps O (ins O b (.cells ⟨cellsN (rows[i].set k x)++sp⟩ 25 (0,0))) (some b):=fun n o hn hne=>(ins_ne _ _ fun e=>hne (by rw[e])).trans hn
  refine⟨h.head.keep hk' fun n hn ho=>?_,by simp[setM,h.l1],by simp[setM,h.l2],fun j u r a h1 h2 h3=>?_,h.ap,h.hp⟩
  · cases hn
    exact h.hp i _ hob b ho rfl
  · unfold setM at h2
    by_cases e:i=j
    · subst e
      rw[List.getElem?_set_self hi] at h2
      cases h2
      rw[hob] at h3
      cases h3
      have hv:=h.row i u _ _ h1 (List.getElem?_eq_getElem hi) hob
      rw[List.getD_eq_getElem?_getD,List.getElem?_eq_getElem hi,Option.getD_some]
      rcases hv.2 with⟨hn,_⟩ | ⟨b',c,sp',q1,q2,q3,q4,q5⟩
      · cases hn
      cases q1
      rw[hO] at q3
      have hsp:sp'=sp:=by
        injection q3 with q3
        injection q3 with q3
        injection q3 with q3
        exact (List.append_cancel_left q3).symm
      subst hsp
      refine⟨fun y hy=>?_,.inr ⟨b,c,sp',rfl,by simpa using q2,ins_same _ _ _,by simpa using q4,by simpa using q5⟩⟩
      obtain⟨z,_,rfl⟩:=List.mem_map.1 hy
      rfl
    · rw[List.getElem?_set_ne e] at h2
      refine OwnA.keep (h.row j u r a h1 h2 h3) hk' fun n hn ho=>?_
      cases hn
      exact h.ap i j _ a hob h3 e b rfl ho
theorem GM.mat {H O : PH} {v:Value} {us:List Value} {rows:Mx} {ob:Option Nat} {obs:List (Option Nat)} (h:GM O v us rows ob obs) (hd:Dis H O):MatH (un H O) v rows:=by
  have hrow:∀ (i:Nat) r u,rows[i]?=some r→us[i]?=some u→NumH (un H O) u r:=fun i r u hr hu=>by
    have hi:=some_lt hr
    exact NumO.share (VecA.num (h.row i u r _ hu hr (List.getElem?_eq_getElem (by rw[h.l2];exact hi)))) hd
  rcases h.head.2 with⟨_,rfl,h3⟩ | ⟨b,c,sp,h1,rfl,h3,h4,h5⟩
  · have:us=[]:=by simpa using h3
    subst this
    have:rows=[]:=by
      have:=h.l1
      exact List.eq_nil_of_length_eq_zero (by simpa using this.symm)
    subst this
    exact nilM _
  · rw[flat_ones] at h3
    refine⟨us,h.l1,⟨some ⟨b,0,none⟩,c,by rw[List.length_map,h.l1],.inr ⟨b,0,_,_,_,rfl,un_right hd h3,?_⟩⟩,hrow⟩
    rw[List.drop_zero]
    exact List.take_left
theorem e98g (m : Mx) (H:PH) (v:Value) (hv:MatH H v m) (hlen:m.length≤100000) (hrow:∀ r∈m,r.length≤100000) (hk:∀ r∈m,∀ x∈r,-9223372036854775808≤x.2∧x.2 < 9223372036854775808) :
    Cl Tryz.prog 98 [v] H emp fun r H' M'=>∃ us ob obs,GM M' r us (m.map formsR) ob obs:=by
  obtain⟨base,cap,rfl⟩:=MatH.sl hv
  refine Cl_of (pol:=fun | 17=>.imm | _=>.loc) Γok Tryz.func98 (by kernel_rfl) rfl ?_
  conv=>whnf
  refine W_loop (pol:=fun | 17=>.imm | _=>.loc) Γok (Nat × PH × Value × PH) (fun i=>i.1≤m.length∧Sub H i.2.1∧∃ us ob obs,GM i.2.2.2 i.2.2.1 us ((m.take i.1).map formsR) ob obs) (fun i=>m.length - i.1) (fun i=>[(4,.v (.int .i64 i.1)),(3,.v i.2.2.1)]) (fun _=>[]) (fun i=>i.2.1) (fun i=>i.2.2.2) ⟨(0,H,.slice none 0 0,emp),⟨by simp,Sub.refl _,[],none,[],by simpa using GM.nil _⟩,rfl,rfl,?_⟩ ?_
  · conv=>whnf
    repeat (refine⟨rfl,?_⟩;conv=>whnf)
    exact trivial
  · rintro ⟨i,H',out,O'⟩ ⟨h1,h2,us,ob,obs,h3⟩
    dsimp only at h1 h2 h3
    conv=>whnf
    refine if_intro (fun h=>?_) (fun h=>?_)
    · have hi:i < m.length:=by simpa using h
      obtain⟨b,off,base',cap',rfl,hrd,hn⟩:=(hv.up h2).rd (O:=O') hi
      conv=>whnf
      refine dec_intro (by simpa using hi) ?_
      conv=>whnf
      refine⟨_,hrd,?_⟩
      conv=>whnf
      refine ((c154 m[i] _ _ hn (hrow _ (List.getElem_mem hi)) (hk _ (List.getElem_mem hi))).pure (O:=O')).mono fun r H2 O1 hs hr=>?_
      obtain⟨Mr,hp,hr⟩:=hr
      obtain⟨oa,hra⟩:=OwnS.toA hr
      obtain⟨rb,rc,rfl⟩:=OwnA.sl hra
      rw[List.length_map] at hra ⊢
      have hra1:VecA O1 (.slice rb (formsR m[i]).length rc) (formsR m[i]) oa:=OwnA.up hra hp.left
      have hfr:∀ n,oa=some n→O' n=none:=fun n hn=>by
        subst hn
        rcases hp.dis n with e | e
        · exact absurd e (OwnA.there hra)
        · exact e
      conv=>whnf
      intro b2 hb2 hO2
      conv=>whnf
      refine append_ap (xs:=us.map fun u=>[u]) (y:=[.slice rb (formsR m[i]).length rc]) (OwnA.up h3.head hp.right) rfl rfl (fun v hv=>by simp at hv;subst hv;rfl) ⟨_,_,_,rfl,rfl,Rd.whole (ins_same _ _ _)⟩ ?_ fun v O2 bx hO2' hf2 hk2=>?_
      · have:=h3.l1
        simp at this ⊢
        omega
      conv=>whnf
      have hs2:=sub_ins H2 (.cells ⟨[.slice rb (formsR m[i]).length rc]⟩ 22 (0,0)) hb2
      refine⟨(i+1,ins H2 b2 (.cells ⟨[.slice rb (formsR m[i]).length rc]⟩ 22 (0,0)),v,O2),⟨hi,(h2.trans hs).trans hs2,us++[.slice rb (formsR m[i]).length rc],some bx,obs++[oa],?_⟩,by dsimp only;omega,?_⟩
      · dsimp only
        rw[List.take_succ_eq_append_getElem hi,List.map_append]
        exact h3.snoc hp.right hra1 hfr hO2' hf2 hk2
      · conv=>whnf
        refine⟨rfl,rfl,?_⟩
        conv=>whnf
        repeat (refine⟨rfl,?_⟩;conv=>whnf)
        refine⟨by show En.v (.int .i64 (IntKind.i64.wrap (i+1)))=_;rw[wrap_id (by omega) (by omega)]<;>rfl,?_⟩
        conv=>whnf
        repeat (refine⟨rfl,?_⟩;conv=>whnf)
        exact trivial
    · have hi:m.length≤i:=by simpa using h
      conv=>whnf
      rw[List.take_of_length_le hi] at h3
      exact⟨us,ob,obs,h3⟩
end Go.Proofs.YtodmckckapmmoaaGreatDoor

namespace Go.Proofs.YtodmckckapmmoaaGreatDoor
open Go.Proofs.YtodmckckapmmoaaGreatDoor.X Go.Proofs.YtodmckckapmmoaaGreatDoor.X.PH
set_option maxRecDepth 100000
set_option maxHeartbeats 2000000 in
theorem e79g (m : Mx) (w:Nat) (x:Int) (hc:checkMF m=0) (N:Nat) (hN:N≤16) (h1:m.length=N) (hwd:wideM m=N) (hw:w < 6) (H:PH) (u:Value) (hu:MatH H u m) :
    Cl Tryz.prog 79 [u,.int .i64 w,.int .i64 x] H emp fun r H' M'=>∃ us ob obs,GM M' r us (keptM m w x) ob obs:=by
  have rm:=right_of hc
  have h2:∀ r∈m,r.length=N:=fun r hr=>by rw[← hwd];exact rm.row r hr
  rw[← partK_all hc h1 hwd]
  have hc2:=hc
  rw[checkMF_checkMR] at hc2
  obtain⟨_,_,_,z4⟩:=checkMR_zero hc2
  obtain⟨ub,uc,rfl⟩:=MatH.sl hu
  refine Cl_of (pol:=polL) Γok Tryz.func79 (by kernel_rfl) rfl ?_
  conv=>whnf
  refine (e98g m _ _ hu (by omega) (fun r hr=>by rw[h2 r hr];omega) (fun r hr y hy=>by
    have:=z4 r hr y hy
    rw[← checkF_checkR] at this
    have:=right_in this
    omega)).mono fun v H2 M2 s2 hr=>?_
  obtain⟨us,ob,obs,hg⟩:=hr
  obtain⟨vb,vc,rfl⟩:=GM.sl hg
  rw[List.length_map,h1] at hg ⊢
  conv=>whnf
  refine W_loop (pol:=polL) Γok (Nat × PH × PH) (fun i=>i.1≤N∧Sub H2 i.2.1∧GM i.2.2 (.slice vb N vc) us (partK m w x N (i.1*N)) ob obs) (fun i=>N - i.1) (fun i=>[(8,.v (.int .i64 i.1))]) (fun _=>[]) (fun i=>i.2.1) (fun i=>i.2.2) ⟨(0,H2,M2),⟨by simp,Sub.refl _,by rw[Nat.zero_mul];exact hg⟩,rfl,rfl,?_⟩ ?_
  · conv=>whnf
    repeat (refine⟨rfl,?_⟩;conv=>whnf)
    exact trivial
  rintro ⟨a,H',O⟩ ⟨g1,g2,g3⟩
  dsimp only at g1 g2 g3
  conv=>whnf
  refine if_intro (fun hca=>?_) (fun hca=>?_)
  · have ha:a < N:=by
      have:=of_decide_eq_true hca
      omega
    conv=>whnf
    refine W_loop (pol:=polL) Γok (Nat × PH × PH) (fun k=>k.1≤N∧Sub H2 k.2.1∧GM k.2.2 (.slice vb N vc) us (partK m w x N (a*N+k.1)) ob obs) (fun k=>N - k.1) (fun k=>[(9,.v (.int .i64 k.1))]) (fun _=>[]) (fun k=>k.2.1) (fun k=>k.2.2) ⟨(0,H',O),⟨by simp,g2,g3⟩,rfl,rfl,?_⟩ ?_
    · conv=>whnf
      repeat (refine⟨rfl,?_⟩;conv=>whnf)
      exact trivial
    rintro ⟨b,H3,O3⟩ ⟨k1,k2,k3⟩
    dsimp only at k1 k2 k3
    conv=>whnf
    refine if_intro (fun hcb=>?_) (fun hcb=>?_)
    · have hb':b < N:=by
        have:=of_decide_eq_true hcb
        omega
      have hst:partK m w x N (a*N+b+1)=if (keepD ((a*N+b) / N) w x && keepD ((a*N+b) % N) w x)=true then partK m w x N (a*N+b) else setM (partK m w x N (a*N+b)) ((a*N+b) / N) ((a*N+b) % N) (P4.zero,0):=rfl
      rw[(divmod hb').1,(divmod hb').2] at hst
      obtain⟨ps1,ps2⟩:=partK_shape (w:=w) (x:=x) h1 h2 (a*N+b)
      have ca:=keep_cond (i:=a) (by omega) hw x
      have cb:=keep_cond (i:=b) (by omega) hw x
      conv=>whnf
      refine if_intro (fun hx=>?_) (fun hx=>?_)
      · have HKA:keepD a w x=false:=by
          rw[← ca]
          have:(!(andI (shrI (a:Int) (w:Int)) 1 == x))=true:=hx
          simpa using this
        have HK:(keepD a w x && keepD b w x)=false:=by rw[HKA]<;>rfl
        conv=>whnf
        rw[if_neg (by rw[HK];simp)] at hst
        obtain⟨hb,hc',br,rc,sp,ev,hob,hus,hOb,hRd⟩:=k3.at (i:=a) (k:=b) (by rw[ps1];exact ha) (by rw[ps2 _ _ (List.getElem?_eq_getElem (by rw[ps1];exact ha))];exact hb')
        have hrl:((partK m w x N (a*N+b))[a]'(by rw[ps1];exact ha)).length=N:=ps2 _ _ (List.getElem?_eq_getElem (by rw[ps1];exact ha))
        rw[ps1] at ev
        injection ev with ev1 ev2 ev3
        subst ev1
        conv=>whnf
        refine dec_intro (by omega) ?_
        conv=>whnf
        refine⟨_,hRd _,?_⟩
        conv=>whnf
        refine dec_intro (by omega) ?_
        conv=>whnf
        refine⟨_,_,hOb,?_,?_⟩
        · rw[List.length_append,cellsN_length,hrl]
          simp only[Int.toNat_natCast,List.length_cons,List.length_nil]
          omega
        conv=>whnf
        have hset:=k3.set (i:=a) (k:=b) (by rw[ps1];exact ha) (by rw[hrl];exact hb') hob hOb (P4.zero,0)
        rw[← hst] at hset
        refine⟨(b+1,H3,ins O3 br (.cells ⟨(cellsN (partK m w x N (a*N+b))[a]++sp).take (0+b*5)++cellsOf (P4.zero,0)++(cellsN (partK m w x N (a*N+b))[a]++sp).drop (0+b*5+5)⟩ 25 (0,0))),⟨hb',k2,hset⟩,by dsimp only;omega,?_⟩
        refine⟨rfl,rfl,?_⟩
        conv=>whnf
        repeat (refine⟨rfl,?_⟩;conv=>whnf)
        refine⟨by show En.v (.int .i64 (IntKind.i64.wrap (b+1)))=_;rw[wrap_id (by omega) (by omega)]<;>rfl,?_⟩
        conv=>whnf
        repeat (refine⟨rfl,?_⟩;conv=>whnf)
        exact trivial
      have HKA:keepD a w x=true:=by
        rw[← ca]
        have:(!(andI (shrI (a:Int) (w:Int)) 1 == x))=false:=hx
        simpa using this
      conv=>whnf
      refine if_intro (fun hx'=>?_) (fun hx'=>?_)
      · have HKB:keepD b w x=false:=by
          rw[← cb]
          have:(!(andI (shrI (b:Int) (w:Int)) 1 == x))=true:=hx'
          simpa using this
        have HK:(keepD a w x && keepD b w x)=false:=by rw[HKA,HKB]<;>rfl
        conv=>whnf
        rw[if_neg (by rw[HK];simp)] at hst
        obtain⟨hb,hc',br,rc,sp,ev,hob,hus,hOb,hRd⟩:=k3.at (i:=a) (k:=b) (by rw[ps1];exact ha) (by rw[ps2 _ _ (List.getElem?_eq_getElem (by rw[ps1];exact ha))];exact hb')
        have hrl:((partK m w x N (a*N+b))[a]'(by rw[ps1];exact ha)).length=N:=ps2 _ _ (List.getElem?_eq_getElem (by rw[ps1];exact ha))
        rw[ps1] at ev
        injection ev with ev1 ev2 ev3
        subst ev1
        conv=>whnf
        refine dec_intro (by omega) ?_
        conv=>whnf
        refine⟨_,hRd _,?_⟩
        conv=>whnf
        refine dec_intro (by omega) ?_
        conv=>whnf
        refine⟨_,_,hOb,?_,?_⟩
        · rw[List.length_append,cellsN_length,hrl]
          simp only[Int.toNat_natCast,List.length_cons,List.length_nil]
          omega
        conv=>whnf
        have hset:=k3.set (i:=a) (k:=b) (by rw[ps1];exact ha) (by rw[hrl];exact hb') hob hOb (P4.zero,0)
        rw[← hst] at hset
        refine⟨(b+1,H3,ins O3 br (.cells ⟨(cellsN (partK m w x N (a*N+b))[a]++sp).take (0+b*5)++cellsOf (P4.zero,0)++(cellsN (partK m w x N (a*N+b))[a]++sp).drop (0+b*5+5)⟩ 25 (0,0))),⟨hb',k2,hset⟩,by dsimp only;omega,?_⟩
        refine⟨rfl,rfl,?_⟩
        conv=>whnf
        repeat (refine⟨rfl,?_⟩;conv=>whnf)
        refine⟨by show En.v (.int .i64 (IntKind.i64.wrap (b+1)))=_;rw[wrap_id (by omega) (by omega)]<;>rfl,?_⟩
        conv=>whnf
        repeat (refine⟨rfl,?_⟩;conv=>whnf)
        exact trivial
      have HKB:keepD b w x=true:=by
        rw[← cb]
        have:(!(andI (shrI (b:Int) (w:Int)) 1 == x))=false:=hx'
        simpa using this
      rw[if_pos (by rw[HKA,HKB]<;>rfl)] at hst
      conv=>whnf
      refine⟨(b+1,H3,O3),⟨hb',k2,by rw[← hst] at k3;exact k3⟩,by dsimp only;omega,?_⟩
      refine⟨rfl,rfl,?_⟩
      conv=>whnf
      repeat (refine⟨rfl,?_⟩;conv=>whnf)
      refine⟨by show En.v (.int .i64 (IntKind.i64.wrap (b+1)))=_;rw[wrap_id (by omega) (by omega)]<;>rfl,?_⟩
      conv=>whnf
      repeat (refine⟨rfl,?_⟩;conv=>whnf)
      exact trivial
    have hb':b=N:=by
      have:=of_decide_eq_false hcb
      omega
    subst hb'
    conv=>whnf
    refine⟨(a+1,H3,O3),⟨ha,k2,by rw[Nat.succ_mul];exact k3⟩,by dsimp only;omega,?_⟩
    refine⟨rfl,rfl,?_⟩
    conv=>whnf
    repeat (refine⟨rfl,?_⟩;conv=>whnf)
    refine⟨by show En.v (.int .i64 (IntKind.i64.wrap (a+1)))=_;rw[wrap_id (by omega) (by omega)]<;>rfl,?_⟩
    conv=>whnf
    repeat (refine⟨rfl,?_⟩;conv=>whnf)
    exact trivial
  have ha:a=N:=by
    have:=of_decide_eq_false hca
    omega
  subst ha
  conv=>whnf
  exact⟨us,ob,obs,g3⟩
theorem e79 (m : Mx) (w:Nat) (x:Int) (hc:checkMF m=0) (N:Nat) (hN:N≤16) (h1:m.length=N) (hwd:wideM m=N) (hw:w < 6) (H:PH) (u:Value) (hu:MatH H u m) :
    Cl Tryz.prog 79 [u,.int .i64 w,.int .i64 x] H emp fun r H' _=>MatH H' r (keptM m w x):=
  (e79g m w x hc N hN h1 hwd hw H u hu).repart fun r H' M' _ hd hq=>by
    obtain⟨us,ob,obs,hg⟩:=hq
    exact⟨_,_,.all hd,hg.mat hd⟩
end Go.Proofs.YtodmckckapmmoaaGreatDoor

namespace Go.Proofs.YtodmckckapmmoaaGreatDoor
open Go.Proofs.YtodmckckapmmoaaGreatDoor.X Go.Proofs.YtodmckckapmmoaaGreatDoor.X.PH
set_option maxRecDepth 100000
def OutN (H0 H : PH) (r:Value) (x:Mx × Int):Prop:=∃ u,r=.tuple #[u,.int .i64 x.2]∧((x.1=[]∧u=.slice none 0 0)∨MatN H0 H u x.1)
theorem OutN.outH {H0 H : PH} {r:Value} {x:Mx × Int} (h:OutN H0 H r x):OutH H r x:=by
  obtain⟨u,h1,h2⟩:=h
  refine⟨u,h1,?_⟩
  rcases h2 with⟨h2,rfl⟩ | h2
  · rw[h2];exact nilM _
  · exact h2.mat
theorem OutN.up {H0 H H' : PH} {r:Value} {x:Mx × Int} (h:OutN H0 H r x) (hs:Sub H H'):OutN H0 H' r x:=by
  obtain⟨u,h1,h2⟩:=h
  exact⟨u,h1,h2.imp id fun h=>h.up hs⟩
theorem OutN.base {H0 H1 H : PH} {r:Value} {x:Mx × Int} (h:OutN H1 H r x) (hs:Sub H0 H1):OutN H0 H r x:=by
  obtain⟨u,h1,h2⟩:=h
  exact⟨u,h1,h2.imp id fun h=>h.base hs⟩
theorem OutN.bad {H0 H : PH} {e:Int}:OutN H0 H (.tuple #[.slice none 0 0,.int .i64 e]) ([],e):=⟨_,rfl,.inl ⟨rfl,rfl⟩⟩
theorem new_of {H H' M' : PH} (hs:Sub H H') (hd:Dis H' M') {u:Value} {h w:Nat} {m:Mx} (h1:h < 1000000) (h2:w < 1000000) (ho:OwnM M' u h w m):MatN H (un H' M') u m:=by
  refine⟨h,w,h1,h2,ho.up fun n o hn=>?_⟩
  have hH':H' n=none:=(hd n).resolve_right (by rw[hn];simp)
  have h0:H n=none:=by
    cases e:H n with
    | none=>rfl
    | some o'=>rw[hs n o' e] at hH';cases hH'
  exact newH_some h0 (un_right hd hn)
theorem Cl.newO {f : FuncId} {args:List Value} {H:PH} {x:Mx × Int} (h:Cl Tryz.prog f args H emp fun r _ M'=>OutO M' r x):Cl Tryz.prog f args H emp fun r H' _=>OutN H H' r x:=
  Cl.repart h fun r H' M' hs hd hq=>by
    obtain⟨u,h1,h2⟩:=hq
    refine⟨_,_,.all hd,u,h1,?_⟩
    rcases h2 with⟨h2,h3⟩ | ⟨a,b,h3,h4,h5⟩
    · exact .inl ⟨h3,h2⟩
    · exact .inr (new_of hs hd h3 h4 h5)
theorem Cl.newM {f : FuncId} {args:List Value} {H:PH} {m:Mx} {h w:Nat} (h1:h < 1000000) (h2:w < 1000000) (hc:Cl Tryz.prog f args H emp fun r _ M'=>OwnM M' r h w m):Cl Tryz.prog f args H emp fun r H' _=>MatN H H' r m:=
  Cl.repart hc fun r H' M' hs hd hq=>⟨_,_,.all hd,new_of hs hd h1 h2 hq⟩
theorem Cl.mineO {f : FuncId} {args:List Value} {H:PH} {x:Mx × Int} (h:Cl Tryz.prog f args H emp fun r H' _=>OutN H H' r x):Cl Tryz.prog f args H emp fun r _ M'=>OutO M' r x:=
  (Cl.own h).mono fun r H2 M2 _ hq=>by
    obtain⟨rfl,H',M',⟨u,h1,h2⟩,_,_,_,h7⟩:=hq
    refine⟨u,h1,?_⟩
    rcases h2 with⟨h2,rfl⟩ | ⟨a,b,h3,h4,h5⟩
    · exact .inl ⟨rfl,h2⟩
    · refine .inr ⟨a,b,h3,h4,h5.up fun n o hn=>?_⟩
      unfold newH at hn
      cases e:H2 n with
      | some _=>rw[e] at hn;cases hn
      | none=>rw[e] at hn;exact h7 n o e hn
theorem c28o (m : Mx) (hlen:m.length < 1000000) (H:PH) (v:Value) (hv:MatH H v m):Cl Tryz.prog 102 [v] H emp fun r _ M'=>OutO M' r (LeastMF m):=
  (c28 m hlen H v hv).mono fun r _ M' _ hq=>by
    unfold LeastMF
    rcases hq with⟨h,rfl⟩ | ⟨h,u,rfl,hu⟩
    · rw[if_pos h];exact .bad
    · rw[if_neg (by simpa using h)]
      refine⟨u,rfl,.inr ⟨_,_,hlen,?_,hu⟩⟩
      have rm:=right_of (show checkMF m=0 by rw[checkMF_checkMR];exact h)
      have:=rm.wle
      show wideM m < 1000000
      omega
def addStep (s : Mx × Int) (x:Mx):Mx × Int:=if s.2=0 then AddMF s.1 x else s
def addedM (d : Mx) (l:List Mx):Mx × Int:=l.foldl addStep (LeastMF d)
theorem res_bad {e : Int} {F:Nat→Nat→(P4 × Int) × Int} {h w:Nat} (hr:(resM e F h w).2 ≠ 0):(resM e F h w).1=[]:=by
  unfold resM at hr ⊢
  split
  · rfl
  · rename_i h1
    rw[if_neg h1] at hr
    split
    · rfl
    · rename_i h2;rw[if_neg h2] at hr;exact absurd rfl hr
theorem add_facts {d : Mx} (hd:d.length < 1000000):∀ l:List Mx,(addedM d l).1.length < 1000000∧((addedM d l).2 ≠ 0→(addedM d l).1=[]):=by
  have key:∀ (l:List Mx) (s:Mx × Int),s.1.length < 1000000→(s.2 ≠ 0→s.1=[])→(l.foldl addStep s).1.length < 1000000∧((l.foldl addStep s).2 ≠ 0→(l.foldl addStep s).1=[]):=by
    intro l
    induction l with
    | nil=>exact fun s h1 h2=>⟨h1,h2⟩
    | cons x l ih=>
      intro s h1 h2
      refine ih _ ?_ ?_
      · unfold addStep
        split
        · exact res_len (by omega) h1
        · exact h1
      · unfold addStep
        split
        · exact res_bad
        · exact h2
  intro l
  refine key l _ ?_ ?_
  · unfold LeastMF
    split
    · exact (by decide:0 < 1000000)
    · simpa using hd
  · unfold LeastMF
    split
    · exact fun _=>rfl
    · exact fun h=>absurd rfl h
theorem e86n (d : Mx) (l:List Mx) (hd:d.length < 1000000) (hl:l.length < 1000000) (hx:∀ m∈l,m.length < 1000000) (H:PH) (u v:Value) (hu:MatH H u d) (hv:MatsH H v l):Cl Tryz.prog 86 [u,v] H emp fun r H' _=>OutN H H' r (addedM d l):=by
  obtain⟨base,cap,rfl⟩:∃ base cap,v=.slice base l.length cap:=by
    obtain⟨_,_,⟨b,c,h,_⟩,_⟩:=hv
    exact⟨b,c,h⟩
  refine Cl_of (pol:=polL) Γok Tryz.func86 (by kernel_rfl) rfl ?_
  conv=>whnf
  refine (Cl.newO (c28o d hd H u hu)).use fun r H1 s1 hr=>?_
  obtain⟨_,w0,rfl,hw0⟩:=hr
  conv=>whnf
  refine W_loop (pol:=polL) Γok (Nat × PH × Value) (fun i=>i.1≤l.length∧Sub H1 i.2.1∧((((addedM d (l.take i.1)).1=[])∧i.2.2=.slice none 0 0)∨MatN H i.2.1 i.2.2 (addedM d (l.take i.1)).1)) (fun i=>l.length - i.1) (fun i=>[(17,.v (.int .i64 i.1)),(6,.v i.2.2),(7,.v (.int .i64 (addedM d (l.take i.1)).2))]) (fun _=>[]) (fun i=>i.2.1) (fun _=>emp) ⟨(0,H1,w0),⟨by simp,Sub.refl _,hw0⟩,rfl,rfl,?_⟩ ?_
  · conv=>whnf
    repeat (refine⟨rfl,?_⟩;conv=>whnf)
    exact trivial
  rintro ⟨i,H2,w⟩ ⟨h1,h2,h3⟩
  dsimp only at h1 h2 h3
  conv=>whnf
  refine if_intro (fun hc=>?_) (fun hc=>?_)
  · have hi:i < l.length:=by
      have:=of_decide_eq_true hc
      omega
    obtain⟨mb,mo,ux,rfl,hrd,hux⟩:=((hv.up s1).up h2).rd hi
    have hst:addedM d (l.take (i+1))=addStep (addedM d (l.take i)) l[i]:=by
      unfold addedM
      rw[List.take_succ_eq_append_getElem hi,List.foldl_append]
      rfl
    obtain⟨f1,f2⟩:=add_facts hd (l.take i)
    conv=>whnf
    refine dec_intro (by omega) ?_
    conv=>whnf
    refine⟨_,hrd _,?_⟩
    conv=>whnf
    refine if_intro (fun he=>?_) (fun he=>?_)
    · have he:(addedM d (l.take i)).2=0:=by simpa using he
      have hw:MatH H2 w (addedM d (l.take i)).1:=by
        rcases h3 with⟨h3,h4⟩ | h3
        · rw[h3,h4];exact nilM _
        · exact h3.mat
      have hst':addedM d (l.take (i+1))=AddMF (addedM d (l.take i)).1 l[i]:=by
        rw[hst]
        exact if_pos he
      obtain⟨wb,wc,rfl⟩:=MatH.sl hw
      obtain⟨xb,xc,rfl⟩:=MatH.sl hux
      conv=>whnf
      have hlx:l[i].length < 1000000:=hx _ (List.getElem_mem hi)
      refine (Cl.newO (c39 (addedM d (l.take i)).1 l[i] f1 hlx _ _ _ hw hux)).use fun r H3 s3 hr=>?_
      obtain⟨_,w3,rfl,hw3⟩:=hr
      conv=>whnf
      refine⟨(i+1,H3,w3),⟨hi,h2.trans s3,?_⟩,by dsimp only;omega,?_⟩
      · dsimp only
        rw[hst']
        exact hw3.imp id fun h=>h.base (s1.trans h2)
      refine⟨rfl,rfl,?_⟩
      conv=>whnf
      repeat (refine⟨rfl,?_⟩;conv=>whnf)
      refine⟨by dsimp only;rw[hst'],?_⟩
      conv=>whnf
      repeat (refine⟨rfl,?_⟩;conv=>whnf)
      refine⟨by show En.v (.int .i64 (IntKind.i64.wrap (i+1)))=_;rw[wrap_id (by omega) (by omega)]<;>rfl,?_⟩
      conv=>whnf
      repeat (refine⟨rfl,?_⟩;conv=>whnf)
      exact trivial
    have he:(addedM d (l.take i)).2 ≠ 0:=by simpa using he
    have hst':addedM d (l.take (i+1))=addedM d (l.take i):=by
      rw[hst]
      exact if_neg he
    conv=>whnf
    refine⟨(i+1,H2,w),⟨hi,h2,by dsimp only;rw[hst'];exact h3⟩,by dsimp only;omega,?_⟩
    refine⟨rfl,rfl,?_⟩
    conv=>whnf
    repeat (refine⟨rfl,?_⟩;conv=>whnf)
    refine⟨by dsimp only;rw[hst'],?_⟩
    conv=>whnf
    repeat (refine⟨rfl,?_⟩;conv=>whnf)
    refine⟨by show En.v (.int .i64 (IntKind.i64.wrap (i+1)))=_;rw[wrap_id (by omega) (by omega)]<;>rfl,?_⟩
    conv=>whnf
    repeat (refine⟨rfl,?_⟩;conv=>whnf)
    exact trivial
  have hi:i=l.length:=by
    have:=of_decide_eq_false hc
    omega
  subst hi
  rw[List.take_length] at h3 ⊢
  obtain⟨f1,f2⟩:=add_facts hd l
  conv=>whnf
  refine if_intro (fun he=>?_) (fun he=>?_)
  · have he:(addedM d l).2 ≠ 0:=by simpa using he
    conv=>whnf
    exact⟨_,rfl,.inl ⟨f2 he,rfl⟩⟩
  · have he:(addedM d l).2=0:=by simpa using he
    conv=>whnf
    exact⟨w,by rw[he],h3⟩
theorem e86 (d : Mx) (l:List Mx) (hd:d.length < 1000000) (hl:l.length < 1000000) (hx:∀ m∈l,m.length < 1000000) (H:PH) (u v:Value) (hu:MatH H u d) (hv:MatsH H v l):Cl Tryz.prog 86 [u,v] H emp fun r _ M'=>OutO M' r (addedM d l):=
  Cl.mineO (e86n d l hd hl hx H u v hu hv)
end Go.Proofs.YtodmckckapmmoaaGreatDoor

namespace Go.Proofs.YtodmckckapmmoaaGreatDoor
open Go.Proofs.YtodmckckapmmoaaGreatDoor.X Go.Proofs.YtodmckckapmmoaaGreatDoor.X.PH
set_option maxRecDepth 100000
def madeM (g : Gt) (n:Int):Mx × Int:=if g.kind < 1∨g.kind > 12 then ([],3) else if (g.ws.length:Int) ≠ arityF g.kind then ([],2) else onX (OfR g.kind).1 g.ws n
theorem opM_least : ∀ k,k < 13→1≤k→checkMF (opM k)=0∧((opM k).all fun r=>r.all fun x=>decide ((LeastF x.1 x.2).2=0))=true:=by decide +kernel
theorem entry_all {m : Mx} {p:P4 × Int→Bool} (h:(m.all fun r=>r.all p)=true) (h0:p (P4.zero,0)=true) (i k:Nat):p (entry m i k)=true:=by
  unfold entry
  rw[List.getD_eq_getElem?_getD,List.getD_eq_getElem?_getD]
  by_cases hi:i < m.length
  · rw[List.getElem?_eq_getElem hi,Option.getD_some]
    have hr:=List.all_eq_true.1 h _ (List.getElem_mem hi)
    by_cases hk:k < m[i].length
    · rw[List.getElem?_eq_getElem hk,Option.getD_some]
      exact List.all_eq_true.1 hr _ (List.getElem_mem hk)
    · rw[List.getElem?_eq_none (Nat.le_of_not_lt hk)]
      exact h0
  · rw[List.getElem?_eq_none (Nat.le_of_not_lt hi)]
    exact h0
theorem pow3 : ∀ a:Nat,a < 4→shlI 1 (a:Int)=((2 ^ a:Nat):Int):=by decide +kernel
theorem onX_err {k : Nat} (h1:1≤k) (h2:k≤12) {ws:List Int} (hl:ws.length=arN k) {n:Nat} (hn:n≤6):(onX (opM k) ws n).2=placesR ws n∧(placesR ws n=0→(onX (opM k) ws n).1=gridM (onAt (opM k) ws) (2 ^ n) (2 ^ n)):=by
  obtain⟨d1,d2⟩:=opM_dims k (by omega) h1
  obtain⟨l1,l2⟩:=opM_least k (by omega) h1
  have ha:=arityF_range (k:Int)
  have har:arN k≤3:=by
    unfold arN
    omega
  have hpos:0 < (opM k).length:=by rw[d1];exact Nat.pow_pos (by decide)
  have hw:wideM (opM k)=2 ^ arN k:=by
    rw[wideM_get hpos]
    simpa using List.all_eq_true.1 d2 _ (List.getElem_mem hpos)
  have he:onErr (opM k) ws n=placesR ws n:=by
    unfold onErr placesR
    rw[l1,if_neg (by simp),if_neg (by simp;omega)]
    by_cases q1:ws.all (inW n)=false
    · rw[if_pos q1,if_pos q1]
    rw[if_neg q1,if_neg q1]
    by_cases q2:twiceF ws=true
    · rw[if_pos q2,if_pos q2]
    rw[if_neg q2,if_neg q2,if_neg]
    rintro (q | q)
    · rw[d1,hw] at q
      simp at q
    · rw[d1,hl,pow3 _ (by omega)] at q
      exact q rfl
  have hz:firstErr (errsE (onAt (opM k) ws) (2 ^ n) (2 ^ n))=0:=errs_zero fun i j _ _=>by
    unfold onAt
    split
    · rfl
    · have:=entry_all l2 (by decide) (splitF ws ws.length i).1.toNat (splitF ws ws.length j).1.toNat
      simpa using this
  unfold onX
  rw[he]
  by_cases hp:placesR ws n=0
  · rw[hp,Int.toNat_natCast,resM_ok rfl hz]
    exact⟨rfl,fun _=>rfl⟩
  · rw[resM_bad hp]
    exact⟨rfl,fun h=>absurd h hp⟩
theorem made_err (g : Gt) {n:Nat} (hn:n≤6):(madeM g n).2=gErr g n∧(gErr g n=0→(madeM g n).1=unitG g n∧(unitG g n).length=2 ^ n∧wideM (unitG g n)=2 ^ n):=by
  unfold madeM gErr unitG
  by_cases h1:g.kind < 1∨g.kind > 12
  · rw[if_pos h1,if_pos h1]
    exact⟨rfl,fun h=>by cases h⟩
  rw[if_neg h1,if_neg h1]
  by_cases h2:(g.ws.length:Int) ≠ arityF g.kind
  · rw[if_pos h2,if_pos h2]
    exact⟨rfl,fun h=>by cases h⟩
  rw[if_neg h2,if_neg h2]
  have h2:(g.ws.length:Int)=arityF g.kind:=by simpa using h2
  have hk:OfR g.kind=(opM g.kind.toNat,0):=if_pos (by omega)
  rw[hk]
  have hkt:((g.kind.toNat:Nat):Int)=g.kind:=by omega
  have hl:g.ws.length=arN g.kind.toNat:=by
    unfold arN
    rw[hkt,← h2]
    rfl
  obtain⟨e1,e2⟩:=onX_err (k:=g.kind.toNat) (by omega) (by omega) hl hn
  refine⟨e1,fun hp=>⟨rfl,?_⟩⟩
  have hN:2 ^ n≤2 ^ 6:=Nat.pow_le_pow_right (by decide) hn
  rw[e2 hp]
  exact⟨gridM_len _ _ _,(grid_right _ (Nat.pow_pos (by decide)) (by omega) (Nat.pow_pos (by decide)) (by omega)).2⟩
theorem e153 (g : Gt) (n:Int) (hl:g.ws.length < 100000) (H:PH) (w:Value) (hw:IntsC H w g.ws):Cl Tryz.prog 153 [gv g w,.int .i64 n] H emp fun r _ M'=>OutO M' r (madeM g n):=by
  obtain⟨wb,wc,rfl,hwc,hw⟩:=hw
  refine Cl_of (pol:=polL) Γok Tryz.func153 (by kernel_rfl) rfl ?_
  conv=>whnf
  intro b1
  conv=>whnf
  refine if_intro (fun h1=>?_) (fun h1=>?_)
  · rw[show madeM g n=([],3) from if_pos (.inl (of_decide_eq_true h1))]
    conv=>whnf
    exact OutO.bad
  conv=>whnf
  refine if_intro (fun h2=>?_) (fun h2=>?_)
  · rw[show madeM g n=([],3) from if_pos (.inr (of_decide_eq_true h2))]
    conv=>whnf
    exact OutO.bad
  have h12:¬ (g.kind < 1∨g.kind > 12):=fun h=>h.elim (of_decide_eq_false h1) (of_decide_eq_false h2)
  conv=>whnf
  refine W_draw (pol:=polL) Γok mixes [(0,.pend),(1,.pend),(2,.pend),(3,.pendO),(4,.pendO),(5,.lock),(6,.pendO),(7,.pendO)] 38 (by kernel_rfl) rfl ?_
  conv=>whnf
  refine (d75 g.kind _).val fun Ha sa=>?_
  conv=>whnf
  refine if_intro (fun h3=>?_) (fun h3=>?_)
  · rw[show madeM g n=([],2) by unfold madeM;rw[if_neg h12,if_pos (by simpa using h3)]]
    conv=>whnf
    exact OutO.bad
  rw[show madeM g n=onX (OfR g.kind).1 g.ws n by unfold madeM;rw[if_neg h12,if_neg (by simpa using h3)]]
  conv=>whnf
  refine (Cl.outH (c21m g.kind _)).use fun r Hb sb hr=>?_
  obtain⟨_,u,rfl,hu⟩:=hr
  obtain⟨ub,uc,rfl⟩:=MatH.sl hu
  conv=>whnf
  have hlm:(OfR g.kind).1.length < 1000000:=by
    unfold OfR
    split
    · rename_i h
      have:=(opM_dims g.kind.toNat (by omega) (by omega)).1
      have ha:=arityF_range ((g.kind.toNat:Nat):Int)
      have har:arN g.kind.toNat≤3:=by
        unfold arN
        omega
      have hp:2 ^ arN g.kind.toNat≤2 ^ 3:=Nat.pow_le_pow_right (by decide) har
      dsimp only
      omega
    · exact (by decide:0 < 1000000)
  refine (c22o (OfR g.kind).1 hlm g.ws hl n _ _ _ hu (IntsH.up (IntsH.up hw sa) sb)).mono fun r Hc Mc sc hr=>?_
  obtain⟨w2,rfl,hw2⟩:=hr
  obtain⟨wb2,wn2,wc2,rfl⟩:=OwnQ.sl hw2
  conv=>whnf
  exact⟨_,rfl,hw2⟩
theorem mul_len {m n : Mx} (h:m.length < 1000000):(MulMF m n).1.length < 1000000:=res_len (by omega) h
theorem dag_len {m : Mx}:(DaggerMF m).1.length < 1000000:=by
  unfold DaggerMF
  by_cases h:checkMF m=0
  · have:=(right_of h).wle
    exact res_len (by omega) (by omega)
  · rw[resM_bad h];exact (by decide:0 < 1000000)
theorem on_len {m : Mx} {ws:List Int} {n:Int} (hn:n≤6):(onX m ws n).1.length < 1000000:=by
  have:2 ^ n.toNat≤2 ^ 6:=Nat.pow_le_pow_right (by decide) (by omega)
  exact res_len (by omega) (by omega)
theorem made_len {g : Gt} {n:Int} (hn:n≤6):(madeM g n).1.length < 1000000:=by
  unfold madeM
  split
  · exact (by decide:0 < 1000000)
  split
  · exact (by decide:0 < 1000000)
  · exact on_len hn
theorem e83 (m : Mx) (g:Gt) (hm:m.length < 1000000) (hl:g.ws.length < 100000) (H:PH) (u w:Value) (hu:MatH H u m) (hw:IntsC H w g.ws):Cl Tryz.prog 83 [u,gv g w] H emp fun r _ M'=>OutO M' r (thenM (madeM g (sizeD m.length)) (aroundM m)):=by
  obtain⟨wb,wc,rfl,_⟩:=id hw
  obtain⟨ub,uc,rfl⟩:=MatH.sl hu
  have hs4:=sizeD_le m.length
  refine Cl_of (pol:=polL) Γok Tryz.func83 (by kernel_rfl) rfl ?_
  conv=>whnf
  intro b1
  conv=>whnf
  refine W_draw (pol:=polL) Γok mixes [(0,.pend),(1,.pendO),(2,.pendO),(3,.lock),(4,.lock),(5,.pendO),(6,.pendO),(7,.pendO),(8,.pendO),(9,.pendO)] 41 (by kernel_rfl) rfl ?_
  conv=>whnf
  refine (e101 m.length _).val fun Ha sa=>?_
  conv=>whnf
  refine (Cl.outH (e153 g (sizeD m.length) hl _ _ (hw.up sa))).use fun r Hb sb hr=>?_
  obtain⟨_,v,rfl,hv⟩:=hr
  obtain⟨vb,vc,rfl⟩:=MatH.sl hv
  conv=>whnf
  refine if_intro (fun he=>?_) (fun he=>?_)
  · rw[thenM_bad (show (madeM g (sizeD m.length)).2 ≠ 0 by simpa using he)]
    conv=>whnf
    exact OutO.bad
  rw[thenM_ok (show (madeM g (sizeD m.length)).2=0 by simpa using he)]
  unfold aroundM
  have hU:=made_len (g:=g) (n:=sizeD m.length) (by omega)
  generalize (madeM g (sizeD m.length)).1=U at hv hU ⊢
  conv=>whnf
  refine (Cl.outH (c40q U m hU hm _ _ _ hv ((hu.up sa).up sb))).use fun r Hc sc hr=>?_
  obtain⟨_,p,rfl,hp⟩:=hr
  obtain⟨pb,pc,rfl⟩:=MatH.sl hp
  conv=>whnf
  refine if_intro (fun he=>?_) (fun he=>?_)
  · rw[thenM_bad (show (MulMF U m).2 ≠ 0 by simpa using he)]
    conv=>whnf
    exact OutO.bad
  rw[thenM_ok (show (MulMF U m).2=0 by simpa using he)]
  conv=>whnf
  refine (Cl.outH (c53 U hU _ _ (hv.up sc))).use fun r Hd sd hr=>?_
  obtain⟨_,t,rfl,ht⟩:=hr
  obtain⟨tb,tc,rfl⟩:=MatH.sl ht
  conv=>whnf
  refine (c40q (MulMF U m).1 (DaggerMF U).1 (mul_len hU) dag_len _ _ _ (hp.up sd) ht).mono fun r He Me se hr=>?_
  obtain⟨w2,rfl,hw2⟩:=hr
  obtain⟨wb2,wn2,wc2,rfl⟩:=OwnQ.sl hw2
  conv=>whnf
  exact⟨_,rfl,hw2⟩
end Go.Proofs.YtodmckckapmmoaaGreatDoor

namespace Go.Proofs.YtodmckckapmmoaaGreatDoor
open Go.Proofs.YtodmckckapmmoaaGreatDoor.X Go.Proofs.YtodmckckapmmoaaGreatDoor.X.PH
set_option maxRecDepth 100000
theorem kept_facts {m : Mx} {N:Nat} (hc:checkMF m=0) (h1:m.length=N) (hw:wideM m=N) (w:Nat) (x:Int):checkMF (keptM m w x)=0∧(keptM m w x).length=N∧wideM (keptM m w x)=N∧LeastMF (keptM m w x)=(keptM m w x,0):=by
  have rm:=right_of hc
  have p1:0 < N:=by rw[← h1];exact rm.pos
  have p2:N≤64:=by rw[← h1];exact rm.le
  have key:∀ i k,i < N→k < N→IsL (keptAt m w x i k).1:=fun i k hi hk=>by
    unfold keptAt
    split
    · have h:=entry_right hc (i:=i) (k:=k) (by omega) (by omega)
      rw[LeastF_eq h]
      exact form_L h
    · exact zero_L
  obtain⟨c1,c2⟩:=grid_check (F:=keptAt m w x) p1 p2 fun i k hi hk=>(key i k hi hk).ok
  have e:keptM m w x=gridM (keptAt m w x) N N:=by unfold keptM;rw[h1]
  rw[e]
  have g:=gridM_shape (keptAt m w x) N N
  refine⟨c1,g.1,c2,?_⟩
  unfold LeastMF
  rw[← checkMF_checkMR,c1,if_neg (by simp)]
  refine congrArg (·,(0:Int)) ?_
  refine mat_ext (h:=N) (w:=N) (by simp[g.1]) (fun i r hr=>?_) g.1 g.2 fun i k hi hk=>?_
  · obtain⟨r',hr',rfl⟩:=List.mem_map.1 (List.mem_of_getElem? hr)
    obtain⟨j,hj,e'⟩:=List.mem_iff_getElem.1 hr'
    have:=g.2 j r' (by rw[List.getElem?_eq_getElem hj,e'])
    simpa[formsR] using this
  · have hi':i < (gridM (keptAt m w x) N N).length:=by rw[g.1];exact hi
    have hk':k < ((gridM (keptAt m w x) N N)[i]'hi').length:=by rw[g.2 i _ (List.getElem?_eq_getElem hi')];exact hk
    rw[forms_entry _ hi' hk',gridM_entry _ hi hk]
    exact (key i k hi hk).form
theorem added_kept {m : Mx} {N:Nat} (hc:checkMF m=0) (h1:m.length=N) (hw:wideM m=N) (w:Nat) (x:Int) (y:Mx):addedM (keptM m w x) [y]=AddMF (keptM m w x) y:=by
  unfold addedM
  rw[(kept_facts hc h1 hw w x).2.2.2]
  show addStep (keptM m w x,0) y=_
  unfold addStep
  exact if_pos rfl
theorem wired_ok {m : Mx} {w:Int} (h:wiredErr m w=0):∃ n k:Nat,Den m n∧w=(k:Int)∧k < n:=by
  unfold wiredErr at h
  by_cases h1:denErr m ≠ 0
  · rw[if_pos h1] at h;exact absurd h h1
  rw[if_neg h1] at h
  obtain⟨n,hd⟩:=den_of (by simpa using h1)
  rw[hd.size] at h
  by_cases h2:w < 0∨w ≥ (n:Int)
  · rw[if_pos h2] at h;cases h
  · exact⟨n,w.toNat,hd,by omega,by omega⟩
theorem xgate_ok : ∀ n:Nat,n < 5→∀ k:Nat,k < n→gErr (xGt (k:Int)) (n:Int)=0:=by decide +kernel
theorem e30 (m : Mx) (w x:Int) (hm:m.length < 1000000) (H:PH) (u:Value) (hu:MatH H u m):Cl Tryz.prog 30 [u,.int .i64 w,.int .i64 x] H emp fun r _ M'=>OutO M' r (findM m w x):=by
  obtain⟨ub,uc,rfl⟩:=MatH.sl hu
  refine Cl_of (pol:=polL) Γok Tryz.func30 (by kernel_rfl) rfl ?_
  conv=>whnf
  refine (e84 m w hm _ _ hu).val fun Ha sa=>?_
  conv=>whnf
  refine if_intro (fun he=>?_) (fun he=>?_)
  · rw[show findM m w x=([],wiredErr m w) from if_pos (show wiredErr m w ≠ 0 by simpa using he)]
    conv=>whnf
    exact OutO.bad
  have h0:wiredErr m w=0:=by simpa using he
  obtain⟨n,k,hd,rfl,hk⟩:=wired_ok h0
  have e0:findM m k x=if x ≠ 0∧x ≠ 1 then ([],3) else (keptM m k x,0):=by unfold findM;rw[if_neg (by rw[h0];simp)]<;>rfl
  rw[e0]
  have hN:=pow_le16 hd.le
  have hle:=hd.le
  have main:∀ (H':PH) (u':Value),MatH H' u' m→Cl Tryz.prog 85 [u',.int .i64 k,.int .i64 x] H' emp fun r _ M'=>OwnM M' r (2 ^ n) (2 ^ n) (keptM m k x):=fun H' u' h=>e85 m k x hd.chk (2 ^ n) hN hd.len hd.wid (by omega) H' u' h
  conv=>whnf
  refine if_intro (fun h1=>?_) (fun h1=>?_)
  · have h1:x ≠ 0:=by simpa using h1
    conv=>whnf
    refine if_intro (fun h2=>?_) (fun h2=>?_)
    · rw[if_pos ⟨h1,by simpa using h2⟩]
      conv=>whnf
      exact OutO.bad
    · rw[if_neg (fun h=>h.2 (by simpa using h2))]
      conv=>whnf
      refine (main _ _ (hu.up sa)).mono fun r H2 M2 s2 hr=>?_
      conv=>whnf
      exact⟨_,rfl,.inr ⟨_,_,by omega,by omega,hr⟩⟩
  · rw[if_neg (fun h=>h.1 (by simpa using h1))]
    conv=>whnf
    refine (main _ _ (hu.up sa)).mono fun r H2 M2 s2 hr=>?_
    conv=>whnf
    exact⟨_,rfl,.inr ⟨_,_,by omega,by omega,hr⟩⟩
theorem e31 (m : Mx) (w:Int) (hm:m.length < 1000000) (H:PH) (u:Value) (hu:MatH H u m):Cl Tryz.prog 31 [u,.int .i64 w] H emp fun r _ M'=>OutO M' r (forgetM m w):=by
  obtain⟨ub,uc,rfl⟩:=MatH.sl hu
  refine Cl_of (pol:=fun | 19=>.imm | _=>.loc) Γok Tryz.func31 (by kernel_rfl) rfl ?_
  conv=>whnf
  refine (e84 m w hm _ _ hu).val fun Ha sa=>?_
  conv=>whnf
  refine if_intro (fun he=>?_) (fun he=>?_)
  · rw[show forgetM m w=([],wiredErr m w) from if_pos (show wiredErr m w ≠ 0 by simpa using he)]
    conv=>whnf
    exact OutO.bad
  have h0:wiredErr m w=0:=by simpa using he
  obtain⟨n,k,hd,rfl,hk⟩:=wired_ok h0
  rw[show forgetM m k=addedM (keptM m k 0) [keptM m k 1] by unfold forgetM;rw[if_neg (by rw[h0];simp),added_kept hd.chk hd.len hd.wid];rfl]
  have hN:=pow_le16 hd.le
  have hle:=hd.le
  obtain⟨_,l0,_⟩:=kept_facts hd.chk hd.len hd.wid k 0
  obtain⟨_,l1,_⟩:=kept_facts hd.chk hd.len hd.wid k 1
  conv=>whnf
  refine (Cl.newM (by omega) (by omega) (e85 m k 0 hd.chk (2 ^ n) hN hd.len hd.wid (by omega) _ _ (hu.up sa))).use fun v0 Hb sb hr=>?_
  obtain⟨_,hr⟩:=hr
  have h0':=hr.mat
  conv=>whnf
  refine (Cl.newM (by omega) (by omega) (e85 m k 1 hd.chk (2 ^ n) hN hd.len hd.wid (by omega) _ _ ((hu.up sa).up sb))).use fun v1 Hc sc hr=>?_
  obtain⟨_,hr⟩:=hr
  have h1':=hr.mat
  obtain⟨b1,c1,rfl⟩:=MatH.sl h1'
  conv=>whnf
  intro bl hbl hOl
  conv=>whnf
  have sl:=sub_ins Hc (.cells ⟨[.slice b1 (keptM m k 1).length c1]⟩ 23 (0,0)) hbl
  refine (e86 (keptM m k 0) [keptM m k 1] (by omega) (by simp) (by simp;omega) _ _ _ ((h0'.up sc).up sl) (one_mats (ins_same _ _ _) (h1'.up sl))).mono fun r Hd Md sd hr=>?_
  obtain⟨w2,rfl,hw2⟩:=hr
  obtain⟨wb2,wn2,wc2,rfl⟩:=OwnQ.sl hw2
  conv=>whnf
  exact⟨_,rfl,hw2⟩
theorem e24 (m : Mx) (w:Int) (H:PH) (u:Value) (hu:MatH H u m):Cl Tryz.prog 24 [u,.int .i64 w] H emp fun r H' _=>OutH H' r (forgetM m w):=by
  obtain⟨ub,uc,rfl⟩:=MatH.sl hu
  refine Cl_of (pol:=polL) Γok Tryz.func24 (by kernel_rfl) rfl ?_
  conv=>whnf
  refine (e78 m w _ _ hu).val fun Ha sa=>?_
  conv=>whnf
  refine if_intro (fun he=>?_) (fun he=>?_)
  · rw[show forgetM m w=([],wiredErr m w) from if_pos (show wiredErr m w ≠ 0 by simpa using he)]
    conv=>whnf
    exact OutH.bad
  have h0:wiredErr m w=0:=by simpa using he
  obtain⟨n,k,hd,rfl,hk⟩:=wired_ok h0
  rw[show forgetM m k=AddMR (keptM m k 0) (keptM m k 1) by unfold forgetM;rw[if_neg (by rw[h0];simp),AddM_eq];rfl]
  have hN:=pow_le16 hd.le
  have hle:=hd.le
  conv=>whnf
  refine (e79 m k 0 hd.chk (2 ^ n) hN hd.len hd.wid (by omega) _ _ (hu.up sa)).use fun v0 Hb sb hr=>?_
  obtain⟨_,h0'⟩:=hr
  conv=>whnf
  refine (e79 m k 1 hd.chk (2 ^ n) hN hd.len hd.wid (by omega) _ _ ((hu.up sa).up sb)).use fun v1 Hc sc hr=>?_
  obtain⟨_,h1'⟩:=hr
  conv=>whnf
  refine (c35 (keptM m k 0) (keptM m k 1) _ _ _ (h0'.up sc) h1').use fun r Hd sd hr=>?_
  obtain⟨_,w2,rfl,hw2⟩:=hr
  obtain⟨wb2,wc2,rfl⟩:=MatH.sl hw2
  conv=>whnf
  exact⟨_,rfl,hw2⟩
theorem around_len {m u : Mx} (h:u.length < 1000000):(aroundM m u).1.length < 1000000:=by
  unfold aroundM
  by_cases he:(MulMF u m).2=0
  · rw[thenM_ok he];exact mul_len (mul_len h)
  · rw[thenM_bad he];exact (by decide:0 < 1000000)
theorem e87 (m : Mx) (n k:Nat) (hc:checkMF m=0) (hl:m.length=2 ^ n) (hw:wideM m=2 ^ n) (hn:n≤4) (hk:k < n) (H:PH) (u:Value) (hu:MatH H u m):Cl Tryz.prog 87 [u,.int .i64 k] H emp fun r _ M'=>OutO M' r (resetR m k n):=by
  have hN:=pow_le16 hn
  obtain⟨ub,uc,rfl⟩:=MatH.sl hu
  obtain⟨c1,l1,w1,_⟩:=kept_facts hc hl hw k 1
  obtain⟨c0,l0,w0,_⟩:=kept_facts hc hl hw k 0
  have hsz:sizeD (keptM m k 1).length=n:=by rw[l1];exact sizeD_at n (by omega)
  have hmade:thenM (madeM (xGt k) (sizeD (keptM m k 1).length)) (aroundM (keptM m k 1))=aroundM (keptM m k 1) (unitG (xGt k) n):=by
    rw[hsz]
    obtain⟨e1,e2⟩:=made_err (xGt k) (n:=n) (by omega)
    have hg:=xgate_ok n (by omega) k hk
    rw[thenM_ok (by rw[e1];exact hg),(e2 hg).1]
  refine Cl_of (pol:=fun | 13=>.imm | 25=>.imm | _=>.loc) Γok Tryz.func87 (by kernel_rfl) rfl ?_
  conv=>whnf
  refine (Cl.newM (by omega) (by omega) (e85 m k 1 hc (2 ^ n) hN hl hw (by omega) _ _ hu)).use fun v1 Ha sa hr=>?_
  obtain⟨_,hr⟩:=hr
  have h1':=hr.mat
  obtain⟨b1,cc1,rfl⟩:=MatH.sl h1'
  conv=>whnf
  intro bw hbw hOw
  conv=>whnf
  have sw:=sub_ins Ha (.cells ⟨[.int .i64 k]⟩ 3 (0,0)) hbw
  have hws:IntsC (ins Ha bw (.cells ⟨[.int .i64 k]⟩ 3 (0,0))) (.slice (some ⟨bw,0,none⟩) 1 1) (xGt k).ws:=⟨_,_,rfl,Nat.le_refl _,⟨_,_,rfl,.inr ⟨bw,0,_,_,_,rfl,ins_same _ _ _,rfl⟩⟩⟩
  have hcall:=e83 (keptM m k 1) (xGt k) (by omega) (by simp[xGt]) _ _ _ (h1'.up sw) hws
  rw[hmade] at hcall
  unfold resetR
  rw[Int.toNat_natCast]
  have hUl:(unitG (xGt k) n).length < 1000000:=on_len (by omega)
  have hAl:=around_len (m:=keptM m k 1) hUl
  refine (Cl.outH hcall).use fun r Hb sb hr=>?_
  obtain⟨_,y,rfl,hy⟩:=hr
  generalize aroundM (keptM m k 1) (unitG (xGt k) n)=A at hy hAl ⊢
  obtain⟨yb,yc,rfl⟩:=MatH.sl hy
  conv=>whnf
  refine if_intro (fun he=>?_) (fun he=>?_)
  · rw[thenM_bad (show A.2 ≠ 0 by simpa using he)]
    conv=>whnf
    exact OutO.bad
  rw[thenM_ok (show A.2=0 by simpa using he),← added_kept hc hl hw]
  conv=>whnf
  refine (Cl.newM (by omega) (by omega) (e85 m k 0 hc (2 ^ n) hN hl hw (by omega) _ _ (((hu.up sa).up sw).up sb))).use fun v0 Hc sc hr=>?_
  obtain⟨_,hr⟩:=hr
  have h0':=hr.mat
  conv=>whnf
  intro bl hbl hOl
  conv=>whnf
  have sl:=sub_ins Hc (.cells ⟨[.slice yb A.1.length yc]⟩ 23 (0,0)) hbl
  refine (e86 (keptM m k 0) [A.1] (by omega) (by simp) (by simpa using hAl) _ _ _ (h0'.up sl) (one_mats (ins_same _ _ _) ((hy.up sc).up sl))).mono fun r Hd Md sd hr=>?_
  obtain⟨w2,rfl,hw2⟩:=hr
  obtain⟨wb2,wn2,wc2,rfl⟩:=OwnQ.sl hw2
  conv=>whnf
  exact⟨_,rfl,hw2⟩
theorem e32 (m : Mx) (w:Int) (hm:m.length < 1000000) (H:PH) (u:Value) (hu:MatH H u m):Cl Tryz.prog 32 [u,.int .i64 w] H emp fun r _ M'=>OutO M' r (resetM m w):=by
  obtain⟨ub,uc,rfl⟩:=MatH.sl hu
  refine Cl_of (pol:=polL) Γok Tryz.func32 (by kernel_rfl) rfl ?_
  conv=>whnf
  refine (e84 m w hm _ _ hu).val fun Ha sa=>?_
  conv=>whnf
  refine if_intro (fun he=>?_) (fun he=>?_)
  · rw[show resetM m w=([],wiredErr m w) from if_pos (show wiredErr m w ≠ 0 by simpa using he)]
    conv=>whnf
    exact OutO.bad
  have h0:wiredErr m w=0:=by simpa using he
  obtain⟨n,k,hd,rfl,hk⟩:=wired_ok h0
  rw[show resetM m k=resetR m k n by unfold resetM;rw[if_neg (by rw[h0];simp),hd.size]]
  conv=>whnf
  refine (e87 m n k hd.chk hd.len hd.wid hd.le hk _ _ (hu.up sa)).mono fun r Hd Md sd hr=>?_
  obtain⟨w2,rfl,hw2⟩:=hr
  obtain⟨wb2,wn2,wc2,rfl⟩:=OwnQ.sl hw2
  conv=>whnf
  exact⟨_,rfl,hw2⟩
theorem findM_len {m : Mx} {w x:Int} (hm:m.length < 1000000):(findM m w x).1.length < 1000000:=by
  unfold findM
  split
  · exact (by decide:0 < 1000000)
  split
  · exact (by decide:0 < 1000000)
  · show (keptM m w.toNat x).length < 1000000
    rw[kept_shape]
    exact hm
theorem e34 (m : Mx) (w:Int) (hm:m.length < 1000000) (H:PH) (u:Value) (hu:MatH H u m):Cl Tryz.prog 34 [u,.int .i64 w] H emp fun r _ _=>r=ne (oddsM m w):=by
  refine Cl_of (pol:=polL) Γok Tryz.func34 (by kernel_rfl) rfl ?_
  conv=>whnf
  intro b4
  conv=>whnf
  have hodd:oddsM m w=if (findM m w 1).2 ≠ 0 then ((P4.zero,0),(findM m w 1).2) else TraceF (findM m w 1).1:=by
    unfold oddsM findM
    by_cases h:wiredErr m w ≠ 0
    · rw[if_pos h,if_pos h,if_pos h]
    · rw[if_neg h,if_neg h,if_neg (show ¬ ((1:Int) ≠ 0∧(1:Int) ≠ 1) by omega)]
      rfl
  rw[hodd]
  refine (Cl.outH (e30 m w 1 hm _ _ hu)).use fun r Ha sa hr=>?_
  obtain⟨_,y,rfl,hy⟩:=hr
  have hl:=findM_len (w:=w) (x:=1) hm
  generalize findM m w 1=A at hy hl ⊢
  conv=>whnf
  refine if_intro (fun he=>?_) (fun he=>?_)
  · rw[if_pos (show A.2 ≠ 0 by simpa using he)]
    conv=>whnf
    rfl
  rw[if_neg (show ¬ A.2 ≠ 0 by simpa using he)]
  conv=>whnf
  refine (c60 A.1 hl _ _ hy).val fun Hb sb=>?_
  conv=>whnf
  rfl
theorem e35 (m : Mx) (hm:m.length < 1000000) (H:PH) (u:Value) (hu:MatH H u m):Cl Tryz.prog 35 [u] H emp fun r _ _=>r=ne (purityM m):=by
  refine Cl_of (pol:=polL) Γok Tryz.func35 (by kernel_rfl) rfl ?_
  conv=>whnf
  intro b4
  conv=>whnf
  unfold purityM
  refine (e48 m hm _ _ hu).val fun Ha sa=>?_
  conv=>whnf
  refine if_intro (fun he=>?_) (fun he=>?_)
  · rw[if_pos (show denErr m ≠ 0 by simpa using he)]
    conv=>whnf
    rfl
  rw[if_neg (show ¬ denErr m ≠ 0 by simpa using he)]
  conv=>whnf
  refine (Cl.outH (c40q m m hm hm _ _ _ (hu.up sa) (hu.up sa))).use fun r Hb sb hr=>?_
  obtain⟨_,y,rfl,hy⟩:=hr
  have hl:=mul_len (n:=m) hm
  generalize MulMF m m=A at hy hl ⊢
  conv=>whnf
  refine if_intro (fun he=>?_) (fun he=>?_)
  · rw[if_pos (show A.2 ≠ 0 by simpa using he)]
    conv=>whnf
    rfl
  rw[if_neg (show ¬ A.2 ≠ 0 by simpa using he)]
  conv=>whnf
  refine (c60 A.1 hl _ _ hy).val fun Hc sc=>?_
  conv=>whnf
  rfl
end Go.Proofs.YtodmckckapmmoaaGreatDoor

namespace Go.Proofs.YtodmckckapmmoaaGreatDoor
open Go.Proofs.YtodmckckapmmoaaGreatDoor.X Go.Proofs.YtodmckckapmmoaaGreatDoor.X.PH
set_option maxRecDepth 100000
theorem with_bound : ∀ n:Nat,n < 5→∀ w:Nat,w < n→∀ i:Nat,i < 2 ^ n / 2→withB i w 0 < 2 ^ n∧withB i w 1 < 2 ^ n:=by decide +kernel
theorem half_int {N : Nat} (h:N≤16):IntKind.i64.wrap ((N:Int).tdiv 2)=((N / 2:Nat):Int):=by
  have e:(N:Int).tdiv 2=((N / 2:Nat):Int):=by
    rw[Int.tdiv_eq_ediv_of_nonneg (by omega)]
    omega
  rw[e,wrap_id (by omega) (by omega)]
def wideI : Nat→Int→Int→Int
  | 0,k,v=>orI (shlI k 1) v
  | j+1,k,v=>orI (shlI (wideI j (shrI k 1) v) 1) (andI k 1)
theorem wide_int : ∀ k:Nat,k < 8→∀ w:Nat,w < 4→wideI w k 0=(withB k w 0:Nat)∧wideI w k 1=(withB k w 1:Nat):=by decide +kernel
theorem e88 (w : Int) (hw:0≤w∧w < 100) (v:Int) (bw bf:Nat) (t t':TypeId):∀ (j:Nat) (k at_:Int),0≤at_→at_+j=w→∀ H:PH,H bw=some (.cells ⟨[.int .i64 w]⟩ t (0,0))→H bf=some (.cells ⟨[.func (.func 88) #[] #[.pointer (some ⟨bw,0,none⟩),.pointer (some ⟨bf,0,none⟩)]]⟩ t' (0,0)) →
    Cl Tryz.prog 88 [.int .i64 k,.int .i64 at_,.int .i64 v,.pointer (some ⟨bw,0,none⟩),.pointer (some ⟨bf,0,none⟩)] H emp fun r _ _=>r=.int .i64 (wideI j k v)
  | 0,k,at_,h0,hj,H,hbw,hbf=>by
    have e:at_=w:=by omega
    subst e
    refine Cl_of (pol:=polL) Γok Tryz.func88 (by kernel_rfl) rfl ?_
    conv=>whnf
    refine⟨_,Rd.whole hbw,?_⟩
    conv=>whnf
    refine if_intro (fun h=>?_) (fun h=>?_)
    · conv=>whnf
      rfl
    · simp at h
  | j+1,k,at_,h0,hj,H,hbw,hbf=>by
    refine Cl_of (pol:=polL) Γok Tryz.func88 (by kernel_rfl) rfl ?_
    conv=>whnf
    refine⟨_,Rd.whole hbw,?_⟩
    conv=>whnf
    refine if_intro (fun h=>?_) (fun h=>?_)
    · have h:at_=w:=by simpa using h
      omega
    conv=>whnf
    refine⟨_,Rd.whole hbf,?_⟩
    conv=>whnf
    rw[wrap_id (n:=at_+1) (by omega) (by omega)]
    refine (e88 w hw v bw bf t t' j (shrI k 1) (at_+1) (by omega) (by omega) H hbw hbf).val fun Ha sa=>?_
    conv=>whnf
    rfl
theorem out_add {m : Mx} {w i k:Nat}:ne (AddR (entry m (withB i w 0) (withB k w 0)) (entry m (withB i w 1) (withB k w 1)))=ne (outAt m w i k):=by
  unfold outAt
  rw[Add_eq]
theorem MatH.el {H : PH} {base:Option Addr} {n cap:Nat} {m:Mx} (h:MatH H (.slice base n cap) m) {i k:Nat} (hi:i < m.length) (hk:k < m[i].length) :
    ∃ b off b' off' cap',base=some ⟨b,off,none⟩∧(∀ H' O,Sub H H'→Rd H' O ⟨b,off+i*1,none⟩ 1 [.slice (some ⟨b',off',none⟩) m[i].length cap'])∧∀ H' O,Sub H H'→Rd H' O ⟨b',off'+k*5,none⟩ 5 (cellsOf (entry m i k)):=by
  obtain⟨b,off,b',off',cap',h1,h2,h3⟩:=MatH.cell h hi hk
  refine⟨b,off,b',off',cap',h1,h2,fun H' O hs=>?_⟩
  rw[entry_get hi hk]
  exact h3 H' O hs
end Go.Proofs.YtodmckckapmmoaaGreatDoor

namespace Go.Proofs.YtodmckckapmmoaaGreatDoor
open Go.Proofs.YtodmckckapmmoaaGreatDoor.X Go.Proofs.YtodmckckapmmoaaGreatDoor.X.PH
set_option maxRecDepth 100000
theorem e88w {k wn : Nat} {v:Int} {bw bf:Nat} {t t':TypeId} (hk:k < 8) (hw:wn < 4) (hv:v=0∨v=1) (H:PH) (hbw:H bw=some (.cells ⟨[.int .i64 wn]⟩ t (0,0))) (hbf:H bf=some (.cells ⟨[.func (.func 88) #[] #[.pointer (some ⟨bw,0,none⟩),.pointer (some ⟨bf,0,none⟩)]]⟩ t' (0,0))) :
    Cl Tryz.prog 88 [.int .i64 k,.int .i64 0,.int .i64 v,.pointer (some ⟨bw,0,none⟩),.pointer (some ⟨bf,0,none⟩)] H emp fun r _ _=>r=.int .i64 (withB k wn v.toNat):=by
  have e:wideI wn k v=(withB k wn v.toNat:Nat):=by
    rcases hv with rfl | rfl
    · exact (wide_int k hk wn hw).1
    · exact (wide_int k hk wn hw).2
  rw[← e]
  exact e88 wn (by omega) v bw bf t t' wn k 0 (by omega) (by omega) H hbw hbf
def polOut : Tmp→Pol:=fun | 3=>.imm | 7=>.own | _=>.loc
set_option maxHeartbeats 4000000 in
theorem e33 (m : Mx) (w:Int) (hm:m.length < 1000000) (H:PH) (u:Value) (hu:MatH H u m):Cl Tryz.prog 33 [u,.int .i64 w] H emp fun r _ M'=>OutO M' r (outM m w):=by
  obtain⟨base,cap,rfl⟩:=MatH.sl hu
  refine Cl_of (pol:=polOut) Γok Tryz.func33 (by kernel_rfl) rfl ?_
  conv=>whnf
  intro b2
  conv=>whnf
  intro bw hbw hOw
  conv=>whnf
  have sw:=sub_ins H (.cells ⟨[.int .i64 w]⟩ 3 (0,0)) hbw
  have hbw':=ins_same H bw (.cells ⟨[.int .i64 w]⟩ 3 (0,0))
  replace hu:=hu.up sw
  intro b4
  conv=>whnf
  intro b5
  conv=>whnf
  refine (e84 m w hm _ _ hu).val fun H1 s1=>?_
  conv=>whnf
  refine if_intro (fun he=>?_) (fun he=>?_)
  · rw[show outM m w=([],wiredErr m w) from if_pos (show wiredErr m w ≠ 0 by simpa using he)]
    conv=>whnf
    exact OutO.bad
  have h0:wiredErr m w=0:=by simpa using he
  obtain⟨n,wn,hd,rfl,hwn⟩:=wired_ok h0
  have hN:=pow_le16 hd.le
  have hle:=hd.le
  have hlen:=hd.len
  have hrow:∀ r∈m,r.length=2 ^ n:=fun r hr=>by rw[← hd.wid];exact hd.right.row r hr
  rw[show outM m wn=resM 0 (outAt m wn) (m.length / 2) (m.length / 2) by unfold outM;rw[if_neg (by rw[h0];simp)];rfl]
  replace hu:=hu.up s1
  replace hbw':=s1 _ _ hbw'
  obtain⟨ib,io,rfl⟩:∃ b off,base=some ⟨b,off,none⟩:=by
    obtain⟨b,off,_,_,e,_⟩:=MatH.at hu hd.right.pos
    exact⟨b,off,e⟩
  have hbd:∀ i,i < m.length / 2→withB i wn 0 < m.length∧withB i wn 1 < m.length:=fun i hi=>by
    have:=with_bound n (by omega) wn hwn i (by rw[← hlen];exact hi)
    rw[hlen]
    exact this
  have hel:∀ (H':PH),Sub H1 H'→∀ i k:Nat,i < m.length→k < m.length→∃ b' off' cap',(∀ H2 O,Sub H' H2→Rd H2 O ⟨ib,io+i*1,none⟩ 1 [.slice (some ⟨b',off',none⟩) m.length cap'])∧∀ H2 O,Sub H' H2→Rd H2 O ⟨b',off'+k*5,none⟩ 5 (cellsOf (entry m i k)):=fun H' hs i k hi hk=>by
    have hr:=hrow _ (List.getElem_mem hi)
    obtain⟨b,off,b',off',cap',e1,e2,e3⟩:=MatH.el hu hi (k:=k) (by rw[hr,← hlen];exact hk)
    cases e1
    rw[hr,← hlen] at e2
    exact⟨b',off',cap',fun H2 O h=>e2 H2 O (hs.trans h),fun H2 O h=>e3 H2 O (hs.trans h)⟩
  generalize hF:outAt m wn=F
  conv=>whnf
  intro bf hbf hOf
  conv=>whnf
  refine⟨_,_,ins_same _ _ _,Nat.le_refl _,?_⟩
  conv=>whnf
  rw[half_int (by omega)]
  have hh8:m.length / 2≤8:=by omega
  generalize m.length / 2=hh at hbd hh8 ⊢
  have sf:=sub_ins H1 (.cells ⟨[.func (.func 88) #[] #[.pointer (some ⟨bw,0,none⟩),.pointer (some ⟨bf,0,none⟩)]]⟩ 95 (0,0)) hbf
  have hbf':=ins_same H1 bf (.cells ⟨[.func (.func 88) #[] #[.pointer (some ⟨bw,0,none⟩),.pointer (some ⟨bf,0,none⟩)]]⟩ 95 (0,0))
  have hc:=e66 hh (by omega) (ins H1 bf (.cells ⟨[.func (.func 88) #[] #[.pointer (some ⟨bw,0,none⟩),.pointer (some ⟨bf,0,none⟩)]]⟩ 95 (0,0)))
  refine Cl.pub (ins_same _ _ _) (fun _=>?_) hc.ent
  rw[show ∀ (x y:Obj),del (ins (ins emp bf x) bf y) bf=emp from fun x y=>by funext n;unfold del ins emp;by_cases e:n=bf<;>simp[e]]
  refine hc.mono fun r H2 M2 s2 hr=>?_
  obtain⟨_,hr⟩:=hr
  obtain⟨bs,b0,rfl,hrows⟩:=hr.ownB
  conv=>whnf
  intro b8
  conv=>whnf
  refine (e67 hh (by omega) _).use fun it H3 s3 hit=>?_
  obtain⟨_,hit⟩:=hit
  have s13:Sub H1 H3:=sf.trans (s2.trans s3)
  replace hbw':=s13 _ _ hbw'
  replace hbf':=(s2.trans s3) _ _ hbf'
  conv=>whnf
  refine W_range (pol:=polOut) Γok (placesN 0 (List.replicate hh hh)) hit (PH × Int) (fun n x H'=>x.2=0∧OwnB x.1 bs b0 hh hh (fills F hh hh n)∧firstErr (errsE F hh hh)=firstErr ((errsE F hh hh).drop n)) (fun e x _=>e=.ret∧x.2=firstErr (errsE F hh hh)∧x.2 ≠ 0) (fun x=>[(3,[.int .i64 x.2])]) (fun x=>x.1) (fun _ _ _ _ _ h=>h) (fun _ _ _ _ _ h=>h) ⟨(M2,0),⟨rfl,hrows,by simp⟩,rfl,?_⟩ ?_ ?_ ?_
  · conv=>whnf
  · rintro n x hx ⟨O,e⟩ H' hs' ⟨he,hrw,hn'⟩ y o o' hy
    dsimp only at he hrw hy
    subst he
    have hlt:n < hh*hh:=by
      rw[← placesN_uniform_length hh hh]
      exact (List.getElem?_eq_some_iff.1 hx).1
    obtain⟨g1,g2,g3⟩:=placesN_uniform hlt
    rw[g3] at hx
    cases hx
    have hst:=errsE_step (F:=F) hlt
    obtain⟨bi,bi'⟩:=hbd _ g1
    obtain⟨bk,bk'⟩:=hbd _ g2
    obtain⟨r0,q0,p0,hr0,hx0⟩:=hel H' (s13.trans hs') _ _ bi bk
    obtain⟨r1,q1_,p1,hr1,hx1⟩:=hel H' (s13.trans hs') _ _ bi' bk'
    have hbwi:=hs' _ _ hbw'
    have hbfi:=hs' _ _ hbf'
    have hfill:fills F hh hh (n+1)=setM (fills F hh hh n) (n / hh) (n % hh) (F (n / hh) (n % hh)).1:=rfl
    generalize n / hh=i at g1 g3 hst bi bi' hr0 hx0 hr1 hx1 hfill ⊢
    generalize n % hh=k at g2 g3 hst bk bk' hr0 hx0 hr1 hx1 hfill ⊢
    conv=>whnf
    intro b9
    conv=>whnf
    refine⟨rfl,?_⟩
    conv=>whnf
    refine⟨O,rfl,?_⟩
    conv=>whnf
    refine W_draw (pol:=polOut) Γok mixes [(0,.pend),(1,.pendO),(2,.pendO),(3,.pendO),(7,.pend),(8,.pend),(9,.pend),(13,.pend),(14,.pend),(15,.pend),(16,.pend),(20,.pend),(21,.pend),(22,.pend),(4,.lock),(5,.pend),(6,.pend),(10,.lock),(11,.pend),(12,.pend),(17,.lock),(18,.pend),(19,.pend),(23,.lock),(24,.pendO),(25,.pendO),(26,.lock),(27,.pendO),(28,.pendO),(29,.pendH),(30,.late),(31,.lock),(32,.pendO)] 70 (by kernel_rfl) rfl ?_
    conv=>whnf
    refine⟨_,Rd.whole hbfi,?_⟩
    conv=>whnf
    refine⟨_,Rd.whole hbfi,?_⟩
    conv=>whnf
    refine⟨_,Rd.whole hbfi,?_⟩
    conv=>whnf
    refine⟨_,Rd.whole hbfi,?_⟩
    conv=>whnf
    refine (e88w (by omega) (by omega) (.inl rfl) _ hbwi hbfi).val fun Ha sa=>?_
    conv=>whnf
    refine dec_intro (Int.ofNat_lt.2 bi) ?_
    conv=>whnf
    refine⟨_,hr0 _ _ sa,?_⟩
    conv=>whnf
    refine (e88w (by omega) (by omega) (.inl rfl) _ (sa _ _ hbwi) (sa _ _ hbfi)).val fun Hb sb=>?_
    conv=>whnf
    refine dec_intro (Int.ofNat_lt.2 bk) ?_
    conv=>whnf
    refine⟨_,hx0 _ _ (sa.trans sb),?_⟩
    conv=>whnf
    have sab:=sa.trans sb
    refine (e88w (by omega) (by omega) (.inr rfl) _ (sab _ _ hbwi) (sab _ _ hbfi)).val fun Hc sc=>?_
    conv=>whnf
    refine dec_intro (Int.ofNat_lt.2 bi') ?_
    conv=>whnf
    have sabc:=sab.trans sc
    refine⟨_,hr1 _ _ sabc,?_⟩
    conv=>whnf
    refine (e88w (by omega) (by omega) (.inr rfl) _ (sabc _ _ hbwi) (sabc _ _ hbfi)).val fun Hd sd=>?_
    conv=>whnf
    refine dec_intro (Int.ofNat_lt.2 bk') ?_
    conv=>whnf
    have sabcd:=sabc.trans sd
    refine⟨_,hx1 _ _ sabcd,?_⟩
    conv=>whnf
    refine (c110 (entry m (withB i wn 0) (withB k wn 0)) (entry m (withB i wn 1) (withB k wn 1)) _).val fun He se=>?_
    rw[Add_eq,out_add,hF]
    conv=>whnf
    intro b10
    conv=>whnf
    refine if_intro (fun he=>?_) (fun he=>?_)
    · conv=>whnf
      have hne:¬ (F i k).2=0:=by simpa using he
      rw[if_neg hne] at hst
      refine⟨(O,(F i k).2),.inr ⟨⟨rfl,(hn'.trans hst).symm,hne⟩,rfl⟩,hy,rfl,?_⟩
      conv=>whnf
      repeat (refine⟨rfl,?_⟩;conv=>whnf)
      exact trivial
    have h0':(F i k).2=0:=by simpa using he
    rw[if_pos h0'] at hst
    have hy0:b0 ≠ y:=fun e=>by rw[← e] at hy;rw[hrw.list] at hy;cases hy
    obtain⟨br,row,hb1,hr1',hrl,hne0,hOb,hRd⟩:=hrw.rowI (O:=ins O y o') (ins_ne _ _ hy0) g1 He
    have hbl:br ≠ y:=fun e=>by rw[e,hy] at hOb;cases hOb
    conv=>whnf
    refine W_draw (pol:=polOut) Γok mixes [(0,.pendO),(1,.pendO),(2,.pendO),(3,.pendO),(4,.pendO),(5,.pendO),(6,.pendO),(7,.pendO),(8,.pendO),(9,.lock)] 70 (by kernel_rfl) rfl ?_
    conv=>whnf
    refine dec_intro (by omega) ?_
    conv=>whnf
    refine⟨_,hRd,?_⟩
    conv=>whnf
    refine dec_intro (by omega) ?_
    conv=>whnf
    refine⟨_,_,(ins_ne _ _ hbl).trans hOb,?_,?_⟩
    · show _≤(cellsN _).length
      rw[cellsN_length,hrl]
      simp only[Int.toNat_natCast,List.length_cons,List.length_nil]
      omega
    conv=>whnf
    refine⟨(ins O br (.cells ⟨(cellsN row).take (0+k*5)++cellsOf (F i k).1++(cellsN row).drop (0+k*5+5)⟩ 25 (0,0)),0),.inl ⟨rfl,rfl,(by rw[hfill];exact hrw.set hb1 hr1' (by omega) _),hn'.trans hst⟩,?_,?_,?_⟩
    · dsimp only
      rw[ins_ne _ _ hbl.symm];exact hy
    · dsimp only
      rw[ins_comm O _ _ hbl]
      rfl
    conv=>whnf
    repeat (refine⟨rfl,?_⟩;conv=>whnf)
    exact trivial
  · rintro ⟨O,e⟩ H' hs' ⟨he,hrw,hn'⟩
    dsimp only at he hrw
    subst he
    rw[List.drop_of_length_le (by rw[placesN_uniform_length];simp[errsE])] at hn'
    conv=>whnf
    rw[placesN_uniform_length] at hrw
    rw[fills_grid] at hrw
    rw[resM_ok rfl hn']
    exact⟨_,rfl,.inr ⟨hh,hh,by omega,by omega,hrw.ownM⟩⟩
  · rintro e ⟨O,e'⟩ H' hs' ⟨rfl,he,hne⟩
    dsimp only at he hne
    conv=>whnf
    subst he
    rw[resM_err rfl rfl hne]
    exact⟨_,rfl,.inl ⟨rfl,rfl⟩⟩
end Go.Proofs.YtodmckckapmmoaaGreatDoor

namespace Go.Proofs.YtodmckckapmmoaaGreatDoor
open Go.Proofs.YtodmckckapmmoaaGreatDoor.X Go.Proofs.YtodmckckapmmoaaGreatDoor.X.PH
set_option maxRecDepth 100000
theorem e46 (m n : Mx) (H:PH) (u v:Value) (hu:MatH H u m) (hv:MatH H v n):Cl Tryz.prog 46 [u,v] H emp fun r _ _=>r=.tuple #[.bool (sameDM m n).1,.int .i64 (sameDM m n).2]:=by
  refine Cl_of (pol:=polL) Γok Tryz.func46 (by kernel_rfl) rfl ?_
  conv=>whnf
  unfold sameDM
  refine (e49 m _ _ hu).val fun Ha sa=>?_
  conv=>whnf
  refine if_intro (fun he=>?_) (fun he=>?_)
  · rw[if_pos (show denErr m ≠ 0 by simpa using he)]
    conv=>whnf
  have hm0:denErr m=0:=by simpa using he
  rw[if_neg (show ¬ denErr m ≠ 0 by rw[hm0];simp)]
  conv=>whnf
  refine (e49 n _ _ (hv.up sa)).val fun Hb sb=>?_
  conv=>whnf
  refine if_intro (fun he=>?_) (fun he=>?_)
  · rw[if_pos (show denErr n ≠ 0 by simpa using he)]
    conv=>whnf
  have hn0:denErr n=0:=by simpa using he
  rw[if_neg (show ¬ denErr n ≠ 0 by rw[hn0];simp)]
  obtain⟨_,d1⟩:=den_of hm0
  obtain⟨_,d2⟩:=den_of hn0
  conv=>whnf
  refine (c96 m n d1.chk d2.chk _ _ _ ((hu.up sa).up sb) ((hv.up sa).up sb)).val fun Hc sc=>?_
  conv=>whnf
theorem e166 (x : Value) (q:Bool) (H:PH) (b:Nat) (f:Value) (t:TypeId) (hb:H b=some (.cells ⟨[f]⟩ t (0,0))) (hf:Does Tryz.prog H f [x] fun r _=>r=.bool q) :
    Cl Tryz.prog 166 [x,.pointer (some ⟨b,0,none⟩)] H emp fun r _ _=>r=.bool (!q):=by
  refine Cl_of (pol:=polL) Γok Tryz.func166 (by kernel_rfl) rfl ?_
  conv=>whnf
  refine⟨_,Rd.whole hb,?_⟩
  conv=>whnf
  refine hf.use fun r H' hs hr=>?_
  subst hr
  conv=>whnf
theorem e110 (vs : List Value) (p:Value→Bool) (H:PH) (v:Value) (fn:Fn) (first cap:Array Value) (hv:SlH H v vs.length vs) (hf:∀ x∈vs,Does Tryz.prog H (.func fn first cap) [x] fun r _=>r=.bool (p x)) (hlen:vs.length < 9223372036854775808) :
    Cl Tryz.prog 110 [v,.func fn first cap] H emp fun r _ _=>r=.bool (vs.all p):=by
  obtain⟨base,cp,rfl,hv'⟩:=id hv
  refine Cl_of (pol:=fun | 3=>.imm | _=>.loc) Γok Tryz.func110 (by kernel_rfl) rfl ?_
  conv=>whnf
  intro b hb hO
  conv=>whnf
  have hs:=sub_ins H (.cells ⟨[.func fn first cap]⟩ 111 (0,0)) hb
  refine (c85 vs (fun x=>!p x) _ _ _ (hv.up hs) (fun x hx=>⟨166,[],[_],rfl,fun H' hs'=>?_⟩) hlen).val fun H' _=>?_
  · exact e166 x (p x) H' b (.func fn first cap) _ (hs' _ _ (ins_same _ _ _)) ((hf x hx).up (hs.trans hs'))
  · conv=>whnf
    congr 1
    simp[List.not_any_eq_all_not]
theorem e111 (base ob : Option Addr) (n cap k kc:Nat) (H:PH) (b:Nat) (t:TypeId) (hb:H b=some (.cells ⟨[.slice ob k kc]⟩ t (0,0))) :
    Cl Tryz.prog 111 [.slice base n cap,.pointer (some ⟨b,0,none⟩)] H emp fun r _ _=>r=.bool ((n:Int) == (k:Int)):=by
  refine Cl_of (pol:=polL) Γok Tryz.func111 (by kernel_rfl) rfl ?_
  conv=>whnf
  refine⟨_,Rd.whole hb,?_⟩
  conv=>whnf
theorem Iter_up {H0 H : PH} {f:Value} {xs:List (List Value)} (h:Iter Tryz.prog H0 f xs) (s:Sub H0 H):Iter Tryz.prog H f xs:=by
  obtain⟨g,first,cap,e,h⟩:=h
  exact⟨g,first,cap,e,fun H' hs=>h H' (s.trans hs)⟩
def sameUp (m n : Mx) (t:Nat):Bool:=(List.range t).all (eqAt m n)
theorem sameUp_succ (m n : Mx) (t:Nat):sameUp m n (t+1)=(sameUp m n t && eqAt m n t):=by
  unfold sameUp
  rw[List.range_succ,List.all_append]
  simp
set_option maxHeartbeats 4000000 in
theorem e47 (m n : Mx) (hm:m.length < 1000000) (hn:n.length < 1000000) (H:PH) (u v:Value) (hu:MatH H u m) (hv:MatH H v n):Cl Tryz.prog 47 [u,v] H emp fun r _ _=>r=.tuple #[.bool (sameDM m n).1,.int .i64 (sameDM m n).2]:=by
  obtain⟨ub,uc,rfl⟩:=MatH.sl hu
  obtain⟨vb,vc,rfl⟩:=MatH.sl hv
  refine Cl_of (pol:=(fun | 15=>.imm | 7=>.own | _=>.loc)) Γok Tryz.func47 (by kernel_rfl) rfl ?_
  conv=>whnf
  intro b2
  conv=>whnf
  intro b4
  conv=>whnf
  intro b5
  conv=>whnf
  intro bm hbm hOm
  conv=>whnf
  have sm:=sub_ins H (.cells ⟨[.slice ub m.length uc,.slice vb n.length vc]⟩ 23 (0,0)) hbm
  replace hu:=hu.up sm
  replace hv:=hv.up sm
  refine (e71 [m,n] (by simp) (by simp[hm,hn]) _ _ (mats2 (ins_same _ _ _) hu hv)).val fun H1 s1=>?_
  replace hu:=hu.up s1
  replace hv:=hv.up s1
  rw[errsD2]
  unfold sameDM
  by_cases e1:denErr m ≠ 0
  · rw[if_pos e1,if_pos e1]
    conv=>whnf
    refine if_intro (fun he=>?_) (fun he=>?_)
    · conv=>whnf
    · exact absurd (by simpa using he) e1
  rw[if_neg e1,if_neg e1]
  by_cases e2:denErr n ≠ 0
  · rw[if_pos e2]
    conv=>whnf
    refine if_intro (fun he=>?_) (fun he=>?_)
    · conv=>whnf
    · exact absurd (by simpa using he) e2
  rw[if_neg e2,show denErr n=0 by simpa using e2]
  obtain⟨n1,d1⟩:=den_of (show denErr m=0 by simpa using e1)
  obtain⟨n2,d2⟩:=den_of (show denErr n=0 by simpa using e2)
  have hN1:=pow_le16 d1.le
  have l1:=d1.len
  have l2:=d2.len
  have w1:=d1.wid
  have w2:=d2.wid
  conv=>whnf
  refine if_intro (fun hl=>?_) (fun hl=>?_)
  · have hl:¬ m.length=n.length:=by
      intro e
      rw[e] at hl
      simp at hl
    rw[show equalR m n=false by unfold equalR alikeF;rw[show ((m.length:Int) == (n.length:Int))=false from beq_eq_false_iff_ne.2 (by omega)];rfl]
    conv=>whnf
  have hl:m.length=n.length:=by
    have:((m.length:Int)=(n.length:Int)):=by simpa using hl
    omega
  have hal:alikeF m n=true:=by unfold alikeF;rw[hl,w1,w2,← l1,← l2,hl];simp
  have heq:equalR m n=sameUp m n (m.length*m.length):=by
    unfold equalR sameUp
    rw[hal,w1,← l1,Bool.true_and]
  rw[heq]
  obtain⟨vs,q1,q2,q3⟩:=id hv
  obtain⟨_,_,qv,q2⟩:=q2
  cases qv
  obtain⟨nb,no,nc,nt,nfr,rfl,qh,qc⟩:∃ b off c t fr,vb=some ⟨b,off,none⟩∧H1 b=some (.cells c t fr)∧(c.toList.drop off).take vs.length=vs:=by
    rcases q2 with⟨_,h⟩ | ⟨b,off,c,t,fr,h⟩
    · have:=d2.right.pos
      have:vs.length=0:=by rw[h]<;>rfl
      omega
    · exact⟨b,off,c,t,fr,h⟩
  have hone:∀ x∈vs,x.oneCell'=true:=fun x hx=>by
    obtain⟨i,hi,rfl⟩:=List.mem_iff_getElem.1 hx
    obtain⟨_,_,e,_⟩:=q3 i n[i] _ (List.getElem?_eq_getElem (by omega)) (List.getElem?_eq_getElem hi)
    rw[e]
    rfl
  conv=>whnf
  refine dec_intro (Int.le_refl _) ?_
  conv=>whnf
  refine dec_intro (by omega) ?_
  conv=>whnf
  refine dec_intro (by omega) ?_
  conv=>whnf
  intro b0 hb0 hO0
  conv=>whnf
  intro b7 hb7 hO7
  conv=>whnf
  refine⟨_,_,ins_same _ _ _,Nat.le_refl _,?_⟩
  conv=>whnf
  have h70:b7 ≠ b0:=fun e=>by rw[e,ins_same] at hO7;cases hO7
  refine⟨_,⟨rfl,rfl,_,_,_,.inr (ins_same _ _ _),rfl⟩,?_⟩
  conv=>whnf
  unfold copyK
  refine⟨some ⟨b0,0,none⟩,n.length,n.length,some ⟨nb,no,none⟩,n.length,vc,vs,rfl,rfl,by rw[Nat.min_self,Nat.mul_one];exact q1,hone,(fun h=>by cases h),fun a ha _=>?_,(fun h=>by cases h),fun a ha=>?_⟩
  · cases ha
    rw[Nat.min_self,Nat.mul_one]
    exact⟨rfl,q1,_,_,_,.inl qh,by rw[← q1];exact qc⟩
  cases ha
  refine⟨b0,0,_,_,rfl,(ins_ne _ _ (Ne.symm h70)).trans ((ins_ne _ _ (Ne.symm h70)).trans (ins_same _ _ _)),?_,?_⟩
  · rw[Nat.min_self]
    simp
  conv=>whnf
  refine (e67 m.length (by omega) _).use fun it H3 s3 hit=>?_
  obtain⟨_,hit⟩:=hit
  conv=>whnf
  refine W_pre fun hd=>⟨_,_,.all hd,?_⟩
  generalize hOO:(ins (ins (ins (ins emp b0 _) b7 _) b7 _) b0 _:PH)=OO at hd ⊢
  have g0:OO b0=some (.cells ⟨vs⟩ 22 (0,0)):=by
    rw[← hOO,ins_same]
    congr 3
    rw[Nat.min_self]
    simp[← q1]
  have g7:OO b7=some (.cells ⟨[.slice (some ⟨b0,0,none⟩) n.length n.length]⟩ 23 (0,0)):=by
    rw[← hOO,ins_ne _ _ h70,ins_same]
    rfl
  have s4:Sub H3 (un H3 OO):=fun k o h=>by simp[un,h]
  have u7:=un_right hd g7
  have hown:MatH (un H3 OO) (.slice (some ⟨b0,0,none⟩) n.length n.length) n:=⟨vs,q1,⟨_,_,rfl,.inr ⟨b0,0,_,_,_,rfl,un_right hd g0,by simp⟩⟩,fun i r x h1 h2=>NumH.up (q3 i r x h1 h2) (s3.trans s4)⟩
  have hu4:=(hu.up s3).up s4
  generalize un H3 OO=H4 at s4 u7 hown hu4 ⊢
  have hrow1:∀ r∈m,r.length=m.length:=fun r hr=>by rw[l1,← w1];exact d1.right.row r hr
  have hrow2:∀ r∈n,r.length=m.length:=fun r hr=>by rw[l1,← l1,hl,l2,← w2];exact d2.right.row r hr
  refine W_range (pol:=(fun | 15=>.imm | 7=>.own | _=>.loc)) Γok (placesN 0 (List.replicate m.length m.length)) (Iter_up hit s4) Unit (fun t _ _=>sameUp m n t=true) (fun e _ _=>e=.ret∧sameUp m n (m.length*m.length)=false) (fun _=>[]) (fun _=>emp) (fun _ _ _ _ _ h=>h) (fun _ _ _ _ _ h=>h) ⟨(),rfl,rfl,?_⟩ ?_ ?_ ?_
  · conv=>whnf
  · rintro t x hx _ H' hs' hsame y o o' hy
    have hlt:t < m.length*m.length:=by
      rw[← placesN_uniform_length m.length m.length]
      exact (List.getElem?_eq_some_iff.1 hx).1
    obtain⟨g1,g2,g3⟩:=placesN_uniform hlt
    rw[g3] at hx
    cases hx
    have hst:=sameUp_succ m n t
    rw[hsame,Bool.true_and] at hst
    obtain⟨ab,ao,ab',ao',ac,ae,ar,ax⟩:=MatH.el (hu4.up hs') g1 (k:=t % m.length) (by rw[hrow1 _ (List.getElem_mem _)];exact g2)
    obtain⟨bb,bo,bb',bo',bc,be,br,bx⟩:=MatH.el (hown.up hs') (i:=t / m.length) (by rw[← hl];exact g1) (k:=t % m.length) (by rw[hrow2 _ (List.getElem_mem _)];exact g2)
    cases be
    subst ae
    have hla:(m[t / m.length]'g1).length=m.length:=hrow1 _ (List.getElem_mem _)
    have hlb:(n[t / m.length]'(by rw[← hl];exact g1)).length=m.length:=hrow2 _ (List.getElem_mem _)
    have c1:=entry_right d1.chk (i:=t / m.length) (k:=t % m.length) g1 (by rw[w1,← l1];exact g2)
    have c2:=entry_right d2.chk (i:=t / m.length) (k:=t % m.length) (by rw[← hl];exact g1) (by rw[w2,← l2,← hl];exact g2)
    have hat:eqAt m n t=eqN (LeastF (entry m (t / m.length) (t % m.length)).1 (entry m (t / m.length) (t % m.length)).2).1 (LeastF (entry n (t / m.length) (t % m.length)).1 (entry n (t / m.length) (t % m.length)).2).1:=by
      rw[LeastF_eq c1,LeastF_eq c2]
      unfold eqAt
      rw[w1,← l1]
    generalize entry m (t / m.length) (t % m.length)=x1 at ax hat
    generalize entry n (t / m.length) (t % m.length)=x2 at bx hat
    have h7:=hs' _ _ u7
    conv=>whnf
    intro b8
    conv=>whnf
    refine⟨rfl,?_⟩
    conv=>whnf
    refine⟨emp,rfl,?_⟩
    conv=>whnf
    refine W_draw (pol:=(fun | 15=>.imm | 7=>.own | _=>.loc)) Γok mixes [(0,.pendO),(1,.pendO),(2,.pendO),(3,.pendO),(4,.pendO),(5,.pendO),(6,.pendO),(7,.pendO),(8,.pendO),(9,.lock),(10,.pendO),(11,.pendO),(12,.pendH),(13,.late),(14,.lock),(15,.pendO)] 69 (by kernel_rfl) rfl ?_
    conv=>whnf
    refine dec_intro (by omega) ?_
    conv=>whnf
    refine⟨_,ar _ _ (Sub.refl _),?_⟩
    conv=>whnf
    refine dec_intro (by omega) ?_
    conv=>whnf
    refine⟨_,ax _ _ (Sub.refl _),?_⟩
    conv=>whnf
    refine (c83 x1.1 x1.2 _).val fun Ha sa=>?_
    conv=>whnf
    intro b9
    conv=>whnf
    refine W_draw (pol:=(fun | 15=>.imm | 7=>.own | _=>.loc)) Γok mixes [(0,.pendO),(1,.pendO),(2,.pendO),(3,.pendO),(4,.pendO),(5,.pendO),(6,.pendO),(7,.pendO),(8,.pendO),(9,.lock),(10,.pendO),(11,.pendO),(12,.pendH),(13,.late),(14,.lock),(15,.pendO)] 69 (by kernel_rfl) rfl ?_
    conv=>whnf
    refine⟨_,Rd.whole (sa _ _ h7),?_⟩
    conv=>whnf
    refine dec_intro (by omega) ?_
    conv=>whnf
    refine⟨_,br _ _ sa,?_⟩
    conv=>whnf
    refine dec_intro (by omega) ?_
    conv=>whnf
    refine⟨_,bx _ _ sa,?_⟩
    conv=>whnf
    refine (c83 x2.1 x2.2 _).val fun Hb sb=>?_
    conv=>whnf
    intro b11
    conv=>whnf
    refine if_intro (fun he=>?_) (fun he=>?_)
    · have he:eqN (LeastF x1.1 x1.2).1 (LeastF x2.1 x2.2).1=true:=he
      conv=>whnf
      refine⟨(),.inl ⟨rfl,?_⟩,hy,rfl,?_⟩
      · rw[hst,hat];exact he
      conv=>whnf
      repeat (refine⟨rfl,?_⟩;conv=>whnf)
      exact trivial
    · have he:eqN (LeastF x1.1 x1.2).1 (LeastF x2.1 x2.2).1=false:=he
      conv=>whnf
      refine⟨(),.inr ⟨⟨rfl,?_⟩,rfl⟩,hy,rfl,?_⟩
      · have hno:sameUp m n (t+1)=false:=by rw[hst,hat];exact he
        unfold sameUp at hno ⊢
        rw[List.all_eq_false] at hno ⊢
        obtain⟨q,q4,q5⟩:=hno
        exact⟨q,List.mem_range.2 (by have:=List.mem_range.1 q4;omega),q5⟩
      conv=>whnf
      repeat (refine⟨rfl,?_⟩;conv=>whnf)
      exact trivial
  · rintro _ H' hs' hsame
    rw[placesN_uniform_length] at hsame
    rw[hsame]
    conv=>whnf
    obtain⟨us,p1,p2,p3⟩:=hu4.up hs'
    have hall:us.all (fun _=>true)=true:=by simp
    refine (e110 us (fun _=>true) _ _ _ _ _ (by rw[p1];exact p2) (fun x hx=>?_) (by omega)).val fun Ha sa=>?_
    · obtain⟨i,hi,rfl⟩:=List.mem_iff_getElem.1 hx
      obtain⟨xb,xc,xe,_⟩:=p3 i m[i] _ (List.getElem?_eq_getElem (by omega)) (List.getElem?_eq_getElem hi)
      rw[xe]
      refine⟨111,[],[_],rfl,fun H2 hs2=>?_⟩
      have:=e111 xb (some ⟨b0,0,none⟩) m[i].length xc n.length n.length H2 b7 _ ((hs'.trans hs2) _ _ u7)
      rw[show ((m[i].length:Int) == (n.length:Int))=true by rw[hrow1 _ (List.getElem_mem _),hl];simp] at this
      exact this
    rw[hall]
    conv=>whnf
  · rintro e _ H' hs' ⟨rfl,hno⟩
    rw[hno]
    conv=>whnf
end Go.Proofs.YtodmckckapmmoaaGreatDoor

namespace Go.Proofs.YtodmckckapmmoaaGreatDoor
open Go.Proofs.YtodmckckapmmoaaGreatDoor.X Go.Proofs.YtodmckckapmmoaaGreatDoor.X.PH
set_option maxRecDepth 100000
def entsFrom (a : Nat):List Value→List MapEntry
  | []=>[]
  | u::us=>{ key:=.int .i64 (a:Int),val:=u,born:=a }::entsFrom (a+1) us
def entsM (us : List Value):Array MapEntry:=⟨entsFrom 0 us⟩
theorem entsFrom_len : ∀ (us:List Value) (a:Nat),(entsFrom a us).length=us.length
  | [],_=>rfl
  | _::us,a=>by simp[entsFrom,entsFrom_len us (a+1)]
theorem entsFrom_snoc : ∀ (us:List Value) (a:Nat) (u:Value),entsFrom a (us++[u])=entsFrom a us++[{ key:=.int .i64 ((a+us.length:Nat):Int),val:=u,born:=a+us.length }]
  | [],a,u=>by simp[entsFrom]
  | x::us,a,u=>by
    simp only[List.cons_append,entsFrom,List.length_cons]
    rw[entsFrom_snoc us (a+1) u]
    have e:a+1+us.length=a+(us.length+1):=by omega
    rw[e]
theorem entsM_push (us : List Value) (u:Value):(entsM us).push { key:=.int .i64 (us.length:Int),val:=u,born:=us.length }=entsM (us++[u]):=by
  unfold entsM
  rw[entsFrom_snoc]
  simp
theorem sameNow_int (a b : Int):Instr.sameNow (.int .i64) (.int .i64 a) (.int .i64 b)=some (a == b):=by
  first | rfl | simp[Instr.sameNow]
theorem find_none : ∀ (us:List Value) (a i:Nat) (k:Nat),(k < a∨a+us.length≤k)→Instr.findNow (.int .i64) (.int .i64 (k:Int)) (entsFrom a us) i=some none
  | [],_,_,_,_=>rfl
  | u::us,a,i,k,h=>by
    have hne:((k:Int) == (a:Int))=false:=beq_eq_false_iff_ne.2 (by simp at h;omega)
    simp only[entsFrom,Instr.findNow,sameNow_int,hne]
    exact find_none us (a+1) (i+1) k (by simp at h;omega)
theorem find_some : ∀ (us:List Value) (a i:Nat) (k:Nat) (u:Value),us[k]?=some u→Instr.findNow (.int .i64) (.int .i64 ((a+k:Nat):Int)) (entsFrom a us) i=some (some (i+k,u))
  | [],_,_,k,u,h=>by simp at h
  | x::us,a,i,0,u,h=>by
    cases h
    simp only[entsFrom,Instr.findNow,sameNow_int,Nat.add_zero,beq_self_eq_true]
  | x::us,a,i,k+1,u,h=>by
    have hne:(((a+(k+1):Nat):Int) == (a:Int))=false:=beq_eq_false_iff_ne.2 (by omega)
    have ih:=find_some us (a+1) (i+1) k u (by simpa using h)
    simp only[entsFrom,Instr.findNow,sameNow_int,hne]
    rw[show a+(k+1)=a+1+k by omega,show i+(k+1)=i+1+k by omega]
    exact ih
theorem entsFrom_get : ∀ (us:List Value) (a k:Nat) (u:Value),us[k]?=some u→(entsFrom a us)[k]?=some { key:=.int .i64 ((a+k:Nat):Int),val:=u,born:=a+k }
  | [],_,k,u,h=>by simp at h
  | x::us,a,0,u,h=>by cases h;rfl
  | x::us,a,k+1,u,h=>by
    have ih:=entsFrom_get us (a+1) k u (by simpa using h)
    show (entsFrom (a+1) us)[k]?=_
    rw[ih,show a+1+k=a+(k+1) by omega]
theorem entsFrom_set : ∀ (us:List Value) (a k:Nat) (v:Value),k < us.length→(entsFrom a us).modify k (fun e=>{ e with key:=.int .i64 ((a+k:Nat):Int),val:=v })=entsFrom a (us.set k v)
  | [],_,k,v,h=>by simp at h
  | x::us,a,0,v,h=>rfl
  | x::us,a,k+1,v,h=>by
    have ih:=entsFrom_set us (a+1) k v (by simpa using h)
    show _::(entsFrom (a+1) us).modify k _=_::entsFrom (a+1) (us.set k v)
    rw[← ih,show a+1+k=a+(k+1) by omega]
theorem entsM_set {us : List Value} {k:Nat} (v:Value) (h:k < us.length):(entsM us).modify k (fun e=>{ e with key:=.int .i64 (k:Int),val:=v })=entsM (us.set k v):=by
  have:=entsFrom_set us 0 k v h
  rw[Nat.zero_add] at this
  unfold entsM
  rw[← this]
  simp
theorem lookM {H O : PH} {mb:Nat} {us:List Value} {clk k:Nat} {u:Value} {K:Option Value→Prop} (hO:H mb=some (.map (entsM us) clk)∨O mb=some (.map (entsM us) clk)) (hk:us[k]?=some u) (h:K (some u)):lookK H O .i64 (.map (some mb)) (.int .i64 (k:Int)) K:=by
  unfold lookK
  have:=find_some us 0 0 k u hk
  rw[Nat.zero_add] at this
  exact⟨_,_,rfl,.inr ⟨mb,_,_,_,rfl,hO,this,h⟩⟩
theorem putM {O : PH} {mb:Nat} {us:List Value} {clk k:Nat} {v:Value} {K:PH→Prop} (hO:O mb=some (.map (entsM us) clk)) (hk:k < us.length) (h:K (ins O mb (.map (entsM (us.set k v)) clk))):enterK O .i64 (.map (some mb)) (.int .i64 (k:Int)) v K:=by
  unfold enterK
  have:=find_some us 0 0 k _ (List.getElem?_eq_getElem hk)
  rw[Nat.zero_add] at this
  refine .inr ⟨_,_,mb,_,_,_,_,rfl,rfl,hO,this,?_,?_⟩
  · have hg:=entsFrom_get us 0 k _ (List.getElem?_eq_getElem hk)
    rw[Nat.zero_add] at hg
    unfold entsM
    rw[← Array.getElem?_toList]
    show Option.map _ ((entsFrom 0 us)[k]?)=_
    rw[hg]
    rfl
  · rw[entsM_set v hk]
    exact h
theorem newM {O : PH} {mb:Nat} {us:List Value} {v:Value} {K:PH→Prop} (hO:O mb=some (.map (entsM us) us.length)) (h:K (ins O mb (.map (entsM (us++[v])) (us++[v]).length))):enterK O .i64 (.map (some mb)) (.int .i64 (us.length:Int)) v K:=by
  unfold enterK
  have:=find_none us 0 0 us.length (by omega)
  refine .inl ⟨_,_,mb,_,_,rfl,rfl,hO,this,?_⟩
  rw[entsM_push]
  rw[List.length_append] at h
  exact h
def MapN (H0 H : PH) (us:List Value) (l:List Mx):Prop:=us.length=l.length∧OwnL emp (newH H0 H) (us.zip l)
theorem MapN.up {H0 H H' : PH} {us:List Value} {l:List Mx} (h:MapN H0 H us l) (hs:Sub H H'):MapN H0 H' us l:=⟨h.1,h.2.up (newH_up hs)⟩
theorem OwnL.set : ∀ {l:List (Value × Mx)} {O O' M:PH} {u:Value} {x:Mx} (b:Nat),OwnL emp O l→Sub O O'→Sub M O'→Dis M O→OwnQ M u x→OwnL emp O' (l.set b (u,x))
  | [],_,_,_,_,_,_,_,_,_,_,_=>fun _ _ h=>by cases h
  | (u0,x0)::l,O,O',M,u,x,0,⟨M0,R,h1,h2,h3,h4,h5⟩,ho,hm,hd,hq=>⟨M,R,hm,h2.trans ho,Dis.symm (Dis.sub (Dis.symm hd) h2),hq,h5⟩
  | (u0,x0)::l,O,O',M,u,x,b+1,⟨M0,R,h1,h2,h3,h4,h5⟩,ho,hm,hd,hq=>by
    refine⟨M0,un M R,h1.trans ho,?_,?_,h4,OwnL.set b h5 (un_r (Dis.symm (Dis.sub (Dis.symm hd) h2))) un_l (Dis.symm (Dis.sub (Dis.symm hd) h2)) hq⟩
    · intro n o hn
      unfold un at hn
      cases e:M n with
      | some o'=>rw[e] at hn;cases hn;exact hm _ _ e
      | none=>rw[e] at hn;exact ho _ _ (h2 _ _ hn)
    · intro n
      cases e:M0 n with
      | none=>exact .inl rfl
      | some o=>
        refine .inr ?_
        unfold un
        rw[(hd n).resolve_right (by rw[h1 _ _ e];simp)]
        exact (h3 n).resolve_left (by rw[e];simp)
theorem newH_dis {H0 H H' : PH}:Dis (newH H H') (newH H0 H):=fun n=>by
  cases e:H n with
  | some o=>exact .inl (by simp[newH,e])
  | none=>
    refine .inr ?_
    unfold newH
    cases H0 n<;>simp[e]
theorem zip_set : ∀ (us:List Value) (l:List Mx) (b:Nat) (u:Value) (x:Mx),(us.set b u).zip (l.set b x)=(us.zip l).set b (u,x)
  | [],_,_,_,_=>by simp
  | _::_,[],_,_,_=>by simp
  | _::us,_::l,0,_,_=>rfl
  | _::us,_::l,b+1,u,x=>by
    simp only[List.set_cons_succ,List.zip_cons_cons]
    rw[zip_set us l b u x]
theorem OwnQ_of {H0 H : PH} {u:Value} {m:Mx} (h:MatN H0 H u m):OwnQ (newH H0 H) u m:=by
  obtain⟨a,b,h1,h2,h3⟩:=h
  exact .inr ⟨a,b,h1,h2,h3⟩
theorem MapN.set {H0 H H' : PH} {us:List Value} {l:List Mx} {b:Nat} {u:Value} {x:Mx} (h:MapN H0 H us l) (h0:Sub H0 H) (hs:Sub H H') (hm:MatN H H' u x):MapN H0 H' (us.set b u) (l.set b x):=by
  refine⟨by simp[h.1],?_⟩
  rw[zip_set]
  exact OwnL.set b h.2 (newH_up hs) (newH_base h0) newH_dis (OwnQ_of hm)
theorem MapN.snoc {H0 H H' : PH} {us:List Value} {l:List Mx} {u:Value} {x:Mx} (h:MapN H0 H us l) (h0:Sub H0 H) (hs:Sub H H') (hm:MatN H H' u x):MapN H0 H' (us++[u]) (l++[x]):=by
  refine⟨by simp[h.1],?_⟩
  rw[List.zip_append h.1]
  refine (OwnL.snoc h.2 newH_dis (OwnQ_of hm)).up fun n o hn=>?_
  unfold un at hn
  cases e:newH H H' n with
  | some o'=>rw[e] at hn;cases hn;exact newH_base h0 _ _ e
  | none=>rw[e] at hn;exact newH_up hs _ _ hn
theorem MapN.nil (H0 H : PH):MapN H0 H [] []:=⟨rfl,fun _ _ h=>by cases h⟩
theorem MapN.at {H0 H : PH} {us:List Value} {l:List Mx} (h:MapN H0 H us l) {b:Nat} (hb:b < l.length):∃ u,us[b]?=some u∧MatH H u l[b]:=by
  have hb':b < us.length:=by rw[h.1];exact hb
  refine⟨us[b],List.getElem?_eq_getElem hb',?_⟩
  have hm:(us[b],l[b])∈us.zip l:=by
    refine List.mem_iff_getElem.2 ⟨b,by rw[List.length_zip];omega,by simp⟩
  have hq:=(h.2.mem hm).up (newH_sub _ _)
  rcases hq with⟨e,e'⟩ | ⟨x,y,q1,q2,q3⟩
  · rw[e,e'];exact nilM _
  · exact (show MatN emp H us[b] l[b] from ⟨x,y,q1,q2,q3.up fun n o hn=>hn⟩).mat
end Go.Proofs.YtodmckckapmmoaaGreatDoor

namespace Go.Proofs.YtodmckckapmmoaaGreatDoor
open Go.Proofs.YtodmckckapmmoaaGreatDoor.X Go.Proofs.YtodmckckapmmoaaGreatDoor.X.PH
set_option maxRecDepth 100000
def zeroM (N : Nat):Mx:=List.replicate N (zeros N)
def toB (b B o : Nat):Nat:=clB B b+o*2 ^ b
def bitN (t b : Nat):Nat:=if t.testBit b then 1 else 0
def cam1 (b t B o : Nat):Bool:=decide (clB t b < B) || (Nat.beq (clB t b) B && decide (bitN t b < o))
def cam2 (b t B o : Nat):Bool:=decide (clB t b+2 ^ b < B) || (Nat.beq (clB t b+2 ^ b) B && decide (bitN t b < o))
theorem to_int : ∀ B:Nat,B < 16→∀ b:Nat,b < 4→∀ o:Nat,o < 2→orI (andNotI (B:Int) (shlI 1 (b:Int))) (shlI (o:Int) (b:Int))=(toB b B o:Nat):=by decide +kernel
theorem to_lt : ∀ q:Nat,q < 5→∀ b:Nat,b < q→∀ B:Nat,B < 2 ^ q→∀ o:Nat,o < 2→toB b B o < 2 ^ q:=by decide +kernel
theorem low_lt : ∀ q:Nat,q < 5→∀ b:Nat,b < q→∀ t:Nat,t < 2 ^ q→clB t b < 2 ^ q∧clB t b+2 ^ b < 2 ^ q∧cam2 b t (2 ^ q) 0=true:=by decide +kernel
def okOther (B b o t : Nat):Bool:=Nat.beq t (toB b B o) || ((cam1 b t B (o+1) == cam1 b t B o) && (cam2 b t B (o+1) == cam2 b t B o))
theorem okOther_all : ∀ B:Nat,B < 16→∀ b:Nat,b < 4→∀ o:Nat,o < 2→∀ t:Nat,t < 16→okOther B b o t=true:=by decide +kernel
theorem cam_other (B : Nat) (hB:B < 16) (b:Nat) (hb:b < 4) (o:Nat) (ho:o < 2) (t:Nat) (ht:t < 16) (hne:t ≠ toB b B o):cam1 b t B (o+1)=cam1 b t B o∧cam2 b t B (o+1)=cam2 b t B o:=by
  have h:=okOther_all B hB b hb o ho t ht
  unfold okOther at h
  rw[Bool.or_eq_true,Bool.and_eq_true,beq_iff_eq,beq_iff_eq] at h
  rcases h with h | h
  · exact absurd (Nat.eq_of_beq_eq_true h) hne
  · exact h
def okLow (B b o : Nat):Bool:=B.testBit b || (!cam1 b (toB b B o) B o && (!cam2 b (toB b B o) B o && (cam1 b (toB b B o) B (o+1) && (!cam2 b (toB b B o) B (o+1) && (Nat.beq (clB (toB b B o) b) B && Nat.beq (bitN (toB b B o) b) o)))))
theorem okLow_all : ∀ B:Nat,B < 16→∀ b:Nat,b < 4→∀ o:Nat,o < 2→okLow B b o=true:=by decide +kernel
theorem cam_low (B : Nat) (hB:B < 16) (b:Nat) (hb:b < 4) (o:Nat) (ho:o < 2) (h0:B.testBit b=false):cam1 b (toB b B o) B o=false∧cam2 b (toB b B o) B o=false∧cam1 b (toB b B o) B (o+1)=true∧cam2 b (toB b B o) B (o+1)=false∧clB (toB b B o) b=B∧bitN (toB b B o) b=o:=by
  have h:=okLow_all B hB b hb o ho
  unfold okLow at h
  rw[h0,Bool.false_or] at h
  simp only[Bool.and_eq_true,Bool.not_eq_true'] at h
  obtain⟨q1,q2,q3,q4,q5,q6⟩:=h
  exact⟨q1,q2,q3,q4,Nat.eq_of_beq_eq_true q5,Nat.eq_of_beq_eq_true q6⟩
def okHigh (B b o : Nat):Bool:=!B.testBit b || (cam1 b (toB b B o) B o && (!cam2 b (toB b B o) B o && (cam1 b (toB b B o) B (o+1) && (cam2 b (toB b B o) B (o+1) && (Nat.beq (clB (toB b B o) b+2 ^ b) B && Nat.beq (bitN (toB b B o) b) o)))))
theorem okHigh_all : ∀ B:Nat,B < 16→∀ b:Nat,b < 4→∀ o:Nat,o < 2→okHigh B b o=true:=by decide +kernel
theorem cam_high (B : Nat) (hB:B < 16) (b:Nat) (hb:b < 4) (o:Nat) (ho:o < 2) (h0:B.testBit b=true):cam1 b (toB b B o) B o=true∧cam2 b (toB b B o) B o=false∧cam1 b (toB b B o) B (o+1)=true∧cam2 b (toB b B o) B (o+1)=true∧clB (toB b B o) b+2 ^ b=B∧bitN (toB b B o) b=o:=by
  have h:=okHigh_all B hB b hb o ho
  unfold okHigh at h
  rw[h0,Bool.not_true,Bool.false_or] at h
  simp only[Bool.and_eq_true,Bool.not_eq_true'] at h
  obtain⟨q1,q2,q3,q4,q5,q6⟩:=h
  exact⟨q1,q2,q3,q4,Nat.eq_of_beq_eq_true q5,Nat.eq_of_beq_eq_true q6⟩
theorem cam_next : ∀ B:Nat,B < 16→∀ b:Nat,b < 4→∀ t:Nat,t < 16→cam1 b t B 2=cam1 b t (B+1) 0∧cam2 b t B 2=cam2 b t (B+1) 0:=by decide +kernel
theorem cam_zero : ∀ b:Nat,b < 4→∀ t:Nat,t < 16→cam1 b t 0 0=false∧cam2 b t 0 0=false:=by decide +kernel
def measC (l : List Mx) (k b t:Nat):Mx × Int:=AddMF (keptM (l.getD (clB t b) []) k (bitN t b)) (keptM (l.getD (clB t b+2 ^ b) []) k (bitN t b))
def nowAt (N : Nat) (l:List Mx) (k b B o t:Nat):Mx:=if cam2 b t B o=true then (measC l k b t).1 else if cam1 b t B o=true then keptM (l.getD (clB t b) []) k (bitN t b) else zeroM N
def nowL (N : Nat) (l:List Mx) (k b B o:Nat):List Mx:=(List.range l.length).map (nowAt N l k b B o)
def AllR (N : Nat) (l:List Mx):Prop:=∀ m∈l,checkMF m=0∧m.length=N∧wideM m=N
theorem AllR.at {N : Nat} {l:List Mx} (h:AllR N l) {i:Nat} (hi:i < l.length):checkMF (l.getD i [])=0∧(l.getD i []).length=N∧wideM (l.getD i [])=N:=by
  rw[List.getD_eq_getElem?_getD,List.getElem?_eq_getElem hi]
  exact h _ (List.getElem_mem hi)
theorem add8 {m o : Mx} {N:Nat} (h1:checkMF m=0∧m.length=N∧wideM m=N) (h2:checkMF o=0∧o.length=N∧wideM o=N):(AddMF m o).2=0∨(AddMF m o).2=8:=by
  obtain⟨c1,l1,w1⟩:=h1
  obtain⟨c2,l2,w2⟩:=h2
  have he:addErr m o=0:=by
    unfold addErr bothErr errsM
    rw[show firstErr ([m,o].map checkMF)=0 by simp[firstErr,c1,c2],if_neg (by simp),show alikeF m o=true by unfold alikeF;rw[l1,l2,w1,w2];simp]
    rfl
  have hall:∀ e∈errsE (addAt m o) m.length (wideM m),e=0∨e=8:=fun e hx=>by
    unfold errsE at hx
    obtain⟨t,ht,rfl⟩:=List.mem_map.1 hx
    have ht:=List.mem_range.1 ht
    obtain⟨g1,g2,_⟩:=placesN_uniform ht
    have k1:=entry_right c1 g1 g2
    have k2:=entry_right c2 (i:=t / wideM m) (k:=t % wideM m) (by omega) (by omega)
    unfold addAt
    rw[Add_eq]
    obtain⟨e,_⟩:=Add_fits k1 k2
    rw[e]
    unfold fitsR
    split
    · exact .inr rfl
    · exact .inl rfl
  unfold AddMF resM
  rw[he,if_neg (by simp)]
  split
  · rename_i h
    dsimp only
    have:∀ l:List Int,(∀ e∈l,e=0∨e=8)→firstErr l=0∨firstErr l=8:=by
      intro l
      induction l with
      | nil=>exact fun _=>.inl rfl
      | cons x l ih=>
        intro hl
        unfold firstErr
        by_cases hx:x=0
        · rw[if_pos hx]
          exact ih fun e he=>hl e (by simp[he])
        · rw[if_neg hx]
          exact hl x (by simp)
    exact this _ hall
  · exact .inl rfl
theorem firstErr8 : ∀ l:List Int,(∀ e∈l,e=0∨e=8)→(∃ e∈l,e ≠ 0)→firstErr l=8
  | [],_,h=>by obtain⟨e,he,_⟩:=h;cases he
  | x::l,h,⟨e,he,hne⟩=>by
    unfold firstErr
    by_cases hx:x=0
    · rw[if_pos hx]
      refine firstErr8 l (fun e he=>h e (by simp[he])) ⟨e,?_,hne⟩
      rcases List.mem_cons.1 he with rfl | h'
      · exact absurd hx hne
      · exact h'
    · rw[if_neg hx]
      exact (h x (by simp)).resolve_left hx
theorem zero_facts {N : Nat} (h1:0 < N) (h2:N≤64):checkMF (zeroM N)=0∧(zeroM N).length=N∧wideM (zeroM N)=N∧∀ i k,i < N→k < N→entry (zeroM N) i k=(P4.zero,0):=by
  have e:zeroM N=gridM (fun _ _=>((P4.zero,0),0)) N N:=by
    unfold zeroM zeros gridM
    rw[List.map_const',List.map_const']
    simp
  obtain⟨c1,c2⟩:=grid_check (F:=fun _ _=>((P4.zero,0),0)) h1 h2 fun _ _ _ _=>by decide
  rw[e]
  exact⟨c1,gridM_len _ _ _,c2,fun i k hi hk=>gridM_entry _ hi hk⟩
theorem addR_zero {x : P4 × Int} (h:IsL x):AddR (P4.zero,0) x=(x,0):=by
  obtain⟨e,hw⟩:=Add_fits (x:=(P4.zero,0)) (y:=x) (by decide) h.ok
  have r:=right_in h.ok
  have hs:sumP (P4.zero,0) x=x.1:=by
    unfold sumP
    dsimp only
    rw[rz_zero,zero_pl,show (max (0:Int) x.2 - x.2).toNat=0 by omega]
    rfl
  rw[hs,show max ((P4.zero,(0:Int)):P4 × Int).2 x.2=x.2 by dsimp only;omega] at e
  rw[e]
  unfold fitsR
  rw[h.form,if_neg (by rw[← checkF_checkR,h.ok];simp)]
theorem least_zero {N : Nat} (h1:0 < N) (h2:N≤64):LeastMF (zeroM N)=(zeroM N,0):=by
  obtain⟨c,l,w,e⟩:=zero_facts h1 h2
  unfold LeastMF
  rw[← checkMF_checkMR,c,if_neg (by simp)]
  refine congrArg (·,(0:Int)) ?_
  have hf:formsR (zeros N)=zeros N:=by
    unfold formsR zeros
    rw[List.map_replicate]
    rfl
  unfold zeroM
  rw[List.map_replicate,hf]
theorem added_zero {m : Mx} {N:Nat} (hc:checkMF m=0) (hl:m.length=N) (hw:wideM m=N) (k:Nat) (x:Int):addedM (zeroM N) [keptM m k x]=(keptM m k x,0):=by
  have rm:=right_of hc
  have h1:0 < N:=by rw[← hl];exact rm.pos
  have h2:N≤64:=by rw[← hl];exact rm.le
  obtain⟨c,l,w,e⟩:=zero_facts h1 h2
  obtain⟨kc,kl,kw,_⟩:=kept_facts hc hl hw k x
  have key:∀ i j,i < N→j < N→addAt (zeroM N) (keptM m k x) i j=((keptAt m k x i j).1,0):=fun i j hi hj=>by
    unfold addAt
    rw[Add_eq,e i j hi hj,kept_entry (by omega) (by omega)]
    refine addR_zero ?_
    unfold keptAt
    split
    · have h:=entry_right hc (i:=i) (k:=j) (by omega) (by omega)
      rw[LeastF_eq h]
      exact form_L h
    · exact zero_L
  unfold addedM
  rw[least_zero h1 h2]
  show addStep (zeroM N,0) (keptM m k x)=_
  unfold addStep
  rw[if_pos rfl]
  unfold AddMF
  have he:addErr (zeroM N) (keptM m k x)=0:=by
    unfold addErr bothErr errsM
    rw[show firstErr ([zeroM N,keptM m k x].map checkMF)=0 by simp[firstErr,c,kc],if_neg (by simp),show alikeF (zeroM N) (keptM m k x)=true by unfold alikeF;rw[l,kl,w,kw];simp]
    rfl
  rw[l,w,resM_ok he (errs_zero fun i j hi hj=>by rw[key i j hi hj])]
  have hg:gridM (addAt (zeroM N) (keptM m k x)) N N=gridM (keptAt m k x) N N:=(grid_congr fun i j hi hj=>by rw[key i j hi hj];unfold keptAt;split<;>rfl).1
  show (gridM (addAt (zeroM N) (keptM m k x)) N N,(0:Int))=_
  rw[hg]
  unfold keptM
  rw[hl]
theorem now_len (N : Nat) (l:List Mx) (k b B o:Nat):(nowL N l k b B o).length=l.length:=by simp[nowL]
theorem now_get {N : Nat} {l:List Mx} {k b B o t:Nat} (ht:t < l.length):(nowL N l k b B o)[t]?=some (nowAt N l k b B o t):=by
  unfold nowL
  rw[List.getElem?_map,List.getElem?_range ht]
  rfl
theorem now_step {N q : Nat} {l:List Mx} {k b B o:Nat} (hq:q < 5) (hb:b < q) (hl:l.length=2 ^ q) (hr:AllR N l) (hB:B < 2 ^ q) (ho:o < 2) :
    (addedM (nowAt N l k b B o (toB b B o)) [keptM (l.getD B []) k o]=if B.testBit b=true then measC l k b (toB b B o) else (keptM (l.getD B []) k o,0)) ∧
      ((addedM (nowAt N l k b B o (toB b B o)) [keptM (l.getD B []) k o]).2=0→nowL N l k b B (o+1)=(nowL N l k b B o).set (toB b B o) (addedM (nowAt N l k b B o (toB b B o)) [keptM (l.getD B []) k o]).1):=by
  have hQ:2 ^ q≤16:=Nat.pow_le_pow_right (by decide) (by omega:q≤4)
  have ht:=to_lt q hq b hb B hB o ho
  obtain⟨r1,r2,r3⟩:=hr.at (i:=B) (by omega)
  have first:addedM (nowAt N l k b B o (toB b B o)) [keptM (l.getD B []) k o]=if B.testBit b=true then measC l k b (toB b B o) else (keptM (l.getD B []) k o,0):=by
    cases hbit:B.testBit b with
    | false=>
      obtain⟨c1,c2,c3,c4,c5,c6⟩:=cam_low B (by omega) b (by omega) o ho hbit
      rw[if_neg (by simp)]
      unfold nowAt
      rw[c2,c1,if_neg (by simp),if_neg (by simp)]
      exact added_zero r1 r2 r3 k o
    | true=>
      obtain⟨c1,c2,c3,c4,c5,c6⟩:=cam_high B (by omega) b (by omega) o ho hbit
      rw[if_pos rfl]
      have hlow:=(low_lt q hq b hb _ ht).1
      obtain⟨s1,s2,s3⟩:=hr.at (i:=clB (toB b B o) b) (by omega)
      unfold nowAt
      rw[c2,c1,if_neg (by simp),if_pos rfl,added_kept s1 s2 s3]
      unfold measC
      rw[c5,c6]
  refine⟨first,fun h0=>?_⟩
  rw[first] at h0 ⊢
  apply List.ext_getElem?
  intro t
  by_cases htl:t < l.length
  · rw[now_get htl]
    by_cases e:toB b B o=t
    · subst e
      rw[List.getElem?_set_self (by rw[now_len];exact htl)]
      cases hbit:B.testBit b with
      | false=>
        obtain⟨c1,c2,c3,c4,c5,c6⟩:=cam_low B (by omega) b (by omega) o ho hbit
        rw[if_neg (by simp)]
        unfold nowAt
        rw[c4,c3,if_neg (by simp),if_pos rfl,c5,c6]
      | true=>
        obtain⟨c1,c2,c3,c4,c5,c6⟩:=cam_high B (by omega) b (by omega) o ho hbit
        rw[if_pos rfl]
        unfold nowAt
        rw[c4,if_pos rfl]
    · rw[List.getElem?_set_ne e,now_get htl]
      obtain⟨c1,c2⟩:=cam_other B (by omega) b (by omega) o ho t (by omega) (Ne.symm e)
      unfold nowAt
      rw[c1,c2]
  · rw[List.getElem?_eq_none (by rw[now_len];omega),List.getElem?_eq_none (by rw[List.length_set,now_len];omega)]
theorem now_next {N q : Nat} {l:List Mx} {k b B:Nat} (hq:q < 5) (hb:b < q) (hl:l.length=2 ^ q) (hB:B < 2 ^ q):nowL N l k b B 2=nowL N l k b (B+1) 0:=by
  have hQ:2 ^ q≤16:=Nat.pow_le_pow_right (by decide) (by omega:q≤4)
  unfold nowL
  refine List.map_congr_left fun t ht=>?_
  have ht:=List.mem_range.1 ht
  obtain⟨c1,c2⟩:=cam_next B (by omega) b (by omega) t (by omega)
  unfold nowAt
  rw[c1,c2]
theorem now_zero {N q : Nat} {l:List Mx} {k b:Nat} (hq:q < 5) (hb:b < q) (hl:l.length=2 ^ q):nowL N l k b 0 0=List.replicate (2 ^ q) (zeroM N):=by
  have hQ:2 ^ q≤16:=Nat.pow_le_pow_right (by decide) (by omega:q≤4)
  apply List.ext_getElem?
  intro t
  by_cases htl:t < l.length
  · obtain⟨c1,c2⟩:=cam_zero b (by omega) t (by omega)
    rw[now_get htl,List.getElem?_replicate,if_pos (by omega)]
    unfold nowAt
    rw[c1,c2,if_neg (by simp),if_neg (by simp)]
  · rw[List.getElem?_eq_none (by rw[now_len];omega),List.getElem?_replicate,if_neg (by omega)]
theorem now_done {N q : Nat} {l:List Mx} {k b:Nat} (hq:q < 5) (hb:b < q) (hl:l.length=2 ^ q):nowL N l k b (2 ^ q) 0=(List.range l.length).map fun t=>(measC l k b t).1:=by
  unfold nowL
  refine List.map_congr_left fun t ht=>?_
  have ht:=List.mem_range.1 ht
  have:=(low_lt q hq b hb t (by omega)).2.2
  unfold nowAt
  rw[this,if_pos rfl]
def measL (l : List Mx) (k b:Nat):List Mx × Int:=if firstErr ((List.range l.length).map fun t=>(measC l k b t).2) ≠ 0 then ([],firstErr ((List.range l.length).map fun t=>(measC l k b t).2)) else ((List.range l.length).map fun t=>(measC l k b t).1,0)
theorem meas8 {N q : Nat} {l:List Mx} {k b t:Nat} (hq:q < 5) (hb:b < q) (hl:l.length=2 ^ q) (hr:AllR N l) (ht:t < l.length):(measC l k b t).2=0∨(measC l k b t).2=8:=by
  obtain⟨a1,a2,_⟩:=low_lt q hq b hb t (by omega)
  obtain⟨r1,r2,r3⟩:=hr.at (i:=clB t b) (by omega)
  obtain⟨s1,s2,s3⟩:=hr.at (i:=clB t b+2 ^ b) (by omega)
  obtain⟨k1,k2,k3,_⟩:=kept_facts r1 r2 r3 k (bitN t b)
  obtain⟨j1,j2,j3,_⟩:=kept_facts s1 s2 s3 k (bitN t b)
  exact add8 ⟨k1,k2,k3⟩ ⟨j1,j2,j3⟩
theorem meas_bad {N q : Nat} {l:List Mx} {k b t:Nat} (hq:q < 5) (hb:b < q) (hl:l.length=2 ^ q) (hr:AllR N l) (ht:t < l.length) (h:(measC l k b t).2 ≠ 0):measL l k b=([],8)∧(measC l k b t).2=8:=by
  have e:firstErr ((List.range l.length).map fun t=>(measC l k b t).2)=8:=by
    refine firstErr8 _ (fun e he=>?_) ⟨_,List.mem_map.2 ⟨t,List.mem_range.2 ht,rfl⟩,h⟩
    obtain⟨s,hs,rfl⟩:=List.mem_map.1 he
    exact meas8 hq hb hl hr (List.mem_range.1 hs)
  unfold measL
  rw[e,if_pos (by decide)]
  exact⟨rfl,(meas8 hq hb hl hr ht).resolve_left h⟩
theorem meas_ok {l : List Mx} {k b:Nat} (h:∀ t,t < l.length→(measC l k b t).2=0):measL l k b=((List.range l.length).map fun t=>(measC l k b t).1,0):=by
  have e:firstErr ((List.range l.length).map fun t=>(measC l k b t).2)=0:=firstErr_all fun e he=>by
    obtain⟨s,hs,rfl⟩:=List.mem_map.1 he
    exact h s (List.mem_range.1 hs)
  unfold measL
  rw[e,if_neg (by simp)]
end Go.Proofs.YtodmckckapmmoaaGreatDoor

namespace Go.Proofs.YtodmckckapmmoaaGreatDoor
open Go.Proofs.YtodmckckapmmoaaGreatDoor.X Go.Proofs.YtodmckckapmmoaaGreatDoor.X.PH
set_option maxRecDepth 100000
def polMs : Tmp→Pol:=fun | 3=>.imm | 70=>.imm | _=>.loc
def MSp (H1 : PH) (nb rb b3 mb:Nat) (ut ub wv:Value) (wa:Addr) (t0 B k o:Nat) (K:Mx) (R:Mx × Int):Nat→Value→PH→Prop
  | 0,x,_=>x=.map (some nb)
  | 1,x,_=>x=.int .i64 t0
  | 2,x,_=>x=ut
  | 3,x,_=>x=.pointer (some ⟨rb,0,none⟩)
  | 4,x,_=>x=.pointer (some ⟨rb,0,none⟩)
  | 5,x,_=>x=.pointer (some ⟨rb,3,none⟩)
  | 6,x,_=>x=.map (some mb)
  | 7,x,_=>x=.int .i64 B
  | 8,x,_=>x=ub
  | 9,x,_=>x=.pointer (some ⟨b3,1,none⟩)
  | 10,x,_=>x=wv
  | 11,x,_=>x=.pointer (some wa)
  | 12,x,_=>x=.int .i64 k
  | 13,x,_=>x=.int .i64 o
  | 14,x,H=>MatN H1 H x K
  | 15,x,H=>∃ b u,x=.slice (some ⟨b,0,none⟩) 1 1∧H b=some (.cells ⟨[u]⟩ 23 (0,0))∧MatH H u K
  | 16,x,H=>OutN H1 H x R
  | 17,x,H=>OutN H1 H x R
  | 18,x,H=>(R.1=[]∧x=.slice none 0 0)∨MatN H1 H x R.1
  | 19,x,_=>x=.int .i64 R.2
  | 20,x,H=>(R.1=[]∧x=.slice none 0 0)∨MatN H1 H x R.1
  | 21,x,_=>x=.int .i64 R.2
  | _,_,_=>True
theorem MSp.up {H1 H H' : PH} {nb rb b3 mb:Nat} {ut ub wv:Value} {wa:Addr} {t0 B k o i:Nat} {K:Mx} {R:Mx × Int} {x:Value} (h:MSp H1 nb rb b3 mb ut ub wv wa t0 B k o K R i x H) (hs:Sub H H'):MSp H1 nb rb b3 mb ut ub wv wa t0 B k o K R i x H':=by
  unfold MSp at *
  split at h
  all_goals first
    | exact h
    | exact MatN.up h hs
    | exact OutN.up h hs
    | exact h.imp id fun h=>MatN.up h hs
    | (obtain⟨b,u,h1,h2,h3⟩:=h;exact⟨b,u,h1,hs _ _ h2,h3.up hs⟩)
structure MI (H1 O1 : PH) (S:Nat→Value→PH→Prop) (L:Nat→Bool) (V:Nat→Value) (H O:PH):Prop where
  sub:Sub H1 H
  own:O=O1
  sp:∀ i,L i=true→S i (V i) H
theorem MI.step {H1 O1 : PH} {S:Nat→Value→PH→Prop} (up:∀ {i x H H'},S i x H→Sub H H'→S i x H') {L:Nat→Bool} {V:Nat→Value} {H O H':PH} (h:MI H1 O1 S L V H O) {i:Nat} {v:Value} (hs:Sub H H') (hv:S i v H'):MI H1 O1 S (setL L i) (setV V i v) H' O:=by
  refine⟨h.sub.trans hs,h.own,fun k hk=>?_⟩
  by_cases e:k=i
  · subst e
    simp only[setV,beq_self_eq_true,cond_true]
    exact hv
  · have e2:(k == i)=false:=by simpa using e
    simp only[setV,e2,cond_false]
    simp only[setL,e2,Bool.false_or] at hk
    exact up (h.sp k hk) hs
set_option maxHeartbeats 8000000 in
theorem e104 (H0 H O : PH) (h00:Sub H0 H) (rb mb:Nat) (gs f:Value) (us:List Value) (l:List Mx) (n q k b:Nat) (hn:n≤4) (hq:q < 5) (hk:k < n) (hbq:b < q) (g:Gt) (hgw:g.ws=[(k:Int)]) (hgb:g.bit=b) (w:Value) (hw:IntsC H w g.ws) (hl:l.length=2 ^ q) (hr:AllR (2 ^ n) l)
    (hO1:O rb=some (.cells ⟨[.int .i64 n,.int .i64 q,gs,.map (some mb),f]⟩ 108 (0,0))) (hO2:O mb=some (.map (entsM us) us.length)) (hm:MapN H0 H us l) :
    Cl Tryz.prog 104 [.pointer (some ⟨rb,0,none⟩),gv g w] H O fun r H' O'=>r=.int .i64 (measL l k b).2∧((measL l k b).2=0→∃ mb' us',O' rb=some (.cells ⟨[.int .i64 n,.int .i64 q,gs,.map (some mb'),f]⟩ 108 (0,0))∧O' mb'=some (.map (entsM us') us'.length)∧MapN H0 H' us' (measL l k b).1):=by
  have hN:=pow_le16 hn
  have hQ:2 ^ q≤16:=Nat.pow_le_pow_right (by decide) (by omega:q≤4)
  have hN0:0 < 2 ^ n:=Nat.pow_pos (by decide)
  obtain⟨wb0,wc0,rfl,hwc,hwi⟩:=id hw
  obtain⟨wb,wo,rfl,hwr⟩:=IntsH.at hwi (i:=0) (by rw[hgw];simp)
  have hg0:(g.ws[0]'(by rw[hgw];simp))=(k:Int):=by simp[hgw]
  rw[hg0] at hwr
  have hlw:g.ws.length=1:=by rw[hgw]<;>rfl
  rw[hlw]
  refine Cl_of (pol:=polMs) Γok Tryz.func104 (by kernel_rfl) rfl ?_
  conv=>whnf
  intro b3 hb3 hOb3
  conv=>whnf
  rw[hgb]
  have s3:=sub_ins H (.cells ⟨[.int .i64 g.kind,.slice (some ⟨wb,wo,none⟩) 1 wc0,.int .i64 b,.int .i64 g.cond]⟩ 42 (0,0)) hb3
  have hb3':=ins_same H b3 (.cells ⟨[.int .i64 g.kind,.slice (some ⟨wb,wo,none⟩) 1 wc0,.int .i64 b,.int .i64 g.cond]⟩ 42 (0,0))
  replace hm:=hm.up s3
  replace h00:=h00.trans s3
  generalize ins H b3 (.cells ⟨[.int .i64 g.kind,.slice (some ⟨wb,wo,none⟩) 1 wc0,.int .i64 b,.int .i64 g.cond]⟩ 42 (0,0))=H1 at s3 hb3' hm h00 ⊢
  intro nb hnb hOnb
  conv=>whnf
  have hrn:rb ≠ nb:=fun e=>by rw[e,hOnb] at hO1;cases hO1
  have hmn:mb ≠ nb:=fun e=>by rw[e,hOnb] at hO2;cases hO2
  have hR:∀ x:Obj,ins O nb x rb=some (.cells ⟨[.int .i64 n,.int .i64 q,gs,.map (some mb),f]⟩ 108 (0,0)):=fun x=>(ins_ne _ _ hrn).trans hO1
  have hM:∀ x:Obj,ins O nb x mb=some (.map (entsM us) us.length):=fun x=>(ins_ne _ _ hmn).trans hO2
  refine⟨_,⟨rfl,rfl,_,_,_,.inr (hR _),rfl⟩,?_⟩
  conv=>whnf
  rw[shl_nat (by omega)]
  refine W_loop (pol:=polMs) Γok (Nat × PH × List Value) (fun i=>i.1≤2 ^ q∧Sub H1 i.2.1∧MapN H0 i.2.1 i.2.2 (List.replicate i.1 (zeroM (2 ^ n)))) (fun i=>2 ^ q - i.1) (fun i=>[(19,.v (.int .i64 i.1))]) (fun _=>[]) (fun i=>i.2.1) (fun i=>ins O nb (.map (entsM i.2.2) i.2.2.length)) ⟨(0,H1,[]),⟨by simp,Sub.refl _,MapN.nil _ _⟩,rfl,rfl,?_⟩ ?_
  · conv=>whnf
    repeat (refine⟨rfl,?_⟩;conv=>whnf)
    exact trivial
  rintro ⟨i,H2,us1⟩ ⟨g1,g2,g3⟩
  dsimp only at g1 g2 g3
  conv=>whnf
  refine if_intro (fun hc=>?_) (fun hc=>?_)
  · have hi:i < 2 ^ q:=by
      have:=of_decide_eq_true hc
      omega
    have hui:us1.length=i:=by rw[g3.1];simp
    subst hui
    conv=>whnf
    refine⟨_,⟨rfl,rfl,_,_,_,.inr (hR _),rfl⟩,?_⟩
    conv=>whnf
    rw[shl_nat (by omega)]
    refine (Cl.newM (by omega) (by omega) ((e66 (2 ^ n) (by omega) H2).mono fun _ _ _ _ h=>h.2)).use fun u Hx sx hr=>?_
    obtain⟨_,hnew⟩:=hr
    conv=>whnf
    refine newM (ins_same _ _ _) ?_
    conv=>whnf
    refine⟨(us1.length+1,Hx,us1++[u]),⟨hi,g2.trans sx,?_⟩,by dsimp only;omega,?_⟩
    · dsimp only
      rw[List.replicate_succ']
      exact g3.snoc (h00.trans g2) sx hnew
    refine⟨rfl,(ins_ins _ _ _ _).symm,?_⟩
    conv=>whnf
    repeat (refine⟨rfl,?_⟩;conv=>whnf)
    refine⟨by show En.v (.int .i64 (IntKind.i64.wrap (us1.length+1)))=_;rw[wrap_id (by omega) (by omega)]<;>rfl,?_⟩
    conv=>whnf
    repeat (refine⟨rfl,?_⟩;conv=>whnf)
    exact trivial
  have hi:i=2 ^ q:=by
    have:=of_decide_eq_false hc
    omega
  subst hi
  rw[← now_zero hq hbq hl] at g3
  dsimp only
  conv=>whnf
  refine⟨_,⟨rfl,rfl,_,_,_,.inr (hR _),rfl⟩,?_⟩
  conv=>whnf
  rw[shl_nat (by omega)]
  refine W_loop (pol:=polMs) Γok (Nat × PH × List Value) (fun i=>i.1≤2 ^ q∧Sub H1 i.2.1∧MapN H0 i.2.1 i.2.2 (nowL (2 ^ n) l k b i.1 0)∧∀ t,t < l.length→cam2 b t i.1 0=true→(measC l k b t).2=0) (fun i=>2 ^ q - i.1) (fun i=>[(38,.v (.int .i64 i.1))]) (fun _=>[]) (fun i=>i.2.1) (fun i=>ins O nb (.map (entsM i.2.2) i.2.2.length)) ⟨(0,H2,us1),⟨by simp,g2,g3,fun t ht h=>by rw[(cam_zero b (by omega) t (by omega)).2] at h;cases h⟩,rfl,rfl,?_⟩ ?_
  · conv=>whnf
    repeat (refine⟨rfl,?_⟩;conv=>whnf)
    exact trivial
  rintro ⟨B,H3,us2⟩ ⟨p1,p2,p3,p4⟩
  dsimp only at p1 p2 p3 p4
  conv=>whnf
  refine if_intro (fun hc=>?_) (fun hc=>?_)
  · have hB:B < 2 ^ q:=by
      have:=of_decide_eq_true hc
      omega
    conv=>whnf
    refine W_loop (pol:=polMs) Γok (Nat × PH × List Value) (fun i=>i.1≤2∧Sub H1 i.2.1∧MapN H0 i.2.1 i.2.2 (nowL (2 ^ n) l k b B i.1)∧∀ t,t < l.length→cam2 b t B i.1=true→(measC l k b t).2=0) (fun i=>2 - i.1) (fun i=>[(41,.v (.int .i64 i.1))]) (fun _=>[]) (fun i=>i.2.1) (fun i=>ins O nb (.map (entsM i.2.2) i.2.2.length)) ⟨(0,H3,us2),⟨by simp,p2,p3,p4⟩,rfl,rfl,?_⟩ ?_
    · conv=>whnf
      repeat (refine⟨rfl,?_⟩;conv=>whnf)
      exact trivial
    rintro ⟨o,H4,us3⟩ ⟨q1,q2,q3,q4⟩
    dsimp only at q1 q2 q3 q4
    conv=>whnf
    refine if_intro (fun hc=>?_) (fun hc=>?_)
    · have ho:o < 2:=by
        have:=of_decide_eq_true hc
        omega
      have hti:=to_int B (by omega) b (by omega) o ho
      have htl:=to_lt q hq b hbq B hB o ho
      obtain⟨nst1,nst2⟩:=now_step (N:=2 ^ n) (k:=k) hq hbq hl hr hB ho
      conv=>whnf
      refine W_draw (pol:=polMs) Γok mixes [(0,.pendO),(1,.pendO),(2,.pendO),(3,.pendO),(4,.pendO),(5,.pendO),(6,.pendO),(7,.pendO),(8,.pendO),(9,.pendO),(10,.pendO)] 86 (by kernel_rfl) rfl ?_
      conv=>whnf
      unfold orI andNotI shlI at hti
      rw[hti]
      generalize hT:toB b B o=T at htl nst1 nst2 ⊢
      obtain⟨ut,hut,hmt⟩:=q3.at (b:=T) (by rw[now_len,hl];exact htl)
      have hget:(nowL (2 ^ n) l k b B o)[T]'(by rw[now_len,hl];exact htl)=nowAt (2 ^ n) l k b B o T:=by
        have:=now_get (N:=2 ^ n) (l:=l) (k:=k) (b:=b) (B:=B) (o:=o) (t:=T) (by rw[hl];exact htl)
        rw[List.getElem?_eq_getElem (by rw[now_len,hl];exact htl)] at this
        exact Option.some.inj this
      rw[hget] at hmt
      obtain⟨ub,hub,hmb⟩:=hm.at (b:=B) (by rw[hl];exact hB)
      have hgetB:l[B]'(by rw[hl];exact hB)=l.getD B []:=by rw[List.getD_eq_getElem?_getD,List.getElem?_eq_getElem (by rw[hl];exact hB)]<;>rfl
      rw[hgetB] at hmb
      obtain⟨r1,r2,r3⟩:=hr.at (i:=B) (by rw[hl];exact hB)
      obtain⟨k1,k2,k3,_⟩:=kept_facts r1 r2 r3 k o
      have hA:(nowAt (2 ^ n) l k b B o T).length < 1000000:=by
        unfold nowAt
        split
        · exact res_len (by omega) (by rw[kept_shape,(hr.at (i:=clB T b) (by have:=(low_lt q hq b hbq T htl).1;omega)).2.1];omega)
        split
        · obtain⟨y1,y2,y3⟩:=hr.at (i:=clB T b) (by have:=(low_lt q hq b hbq T htl).1;omega)
          rw[kept_shape,y2];omega
        · unfold zeroM;rw[List.length_replicate];omega
      have hb3q:=q2 _ _ hb3'
      conv=>whnf
      refine W_free (pol:=polMs) Γok mixes 86 (by kernel_rfl) rfl (MI H4 (ins O nb (.map (entsM us3) us3.length)) (MSp H4 nb rb b3 mb ut ub (.slice (some ⟨wb,wo,none⟩) 1 wc0) ⟨wb,wo+0*1,none⟩ T B k o (keptM (l.getD B []) k o) (addedM (nowAt (2 ^ n) l k b B o T) [keptM (l.getD B []) k o]))) ⟨Sub.refl _,rfl,fun i h=>(by cases h)⟩ ?_ ?_
      · intro i op ho' L V H' O' hI hLi hsee
        have hi:i < 22:=(List.getElem?_eq_some_iff.1 ho').1
        have get:∀ j,seesB _ op j=true→MSp H4 nb rb b3 mb ut ub (.slice (some ⟨wb,wo,none⟩) 1 wc0) ⟨wb,wo+0*1,none⟩ T B k o (keptM (l.getD B []) k o) (addedM (nowAt (2 ^ n) l k b B o T) [keptM (l.getD B []) k o]) j (V j) H':=fun j h=>hI.sp j (hsee j h)
        have stp:=fun {H'':PH} {v:Value} (hs:Sub H' H'') hv=>MI.step (S:=MSp H4 nb rb b3 mb ut ub (.slice (some ⟨wb,wo,none⟩) 1 wc0) ⟨wb,wo+0*1,none⟩ T B k o (keptM (l.getD B []) k o) (addedM (nowAt (2 ^ n) l k b B o T) [keptM (l.getD B []) k o])) (i:=i) (v:=v) (fun h s=>MSp.up h s) hI hs hv
        have hO':=hI.own
        subst hO'
        rcases (show i=0∨i=1∨i=2∨i=3∨i=4∨i=5∨i=6∨i=7∨i=8∨i=9∨i=10∨i=11∨i=12∨i=13∨i=14∨i=15∨i=16∨i=17∨i=18∨i=19∨i=20∨i=21 by omega) with rfl | rfl | rfl | rfl | rfl | rfl | rfl | rfl | rfl | rfl | rfl | rfl | rfl | rfl | rfl | rfl | rfl | rfl | rfl | rfl | rfl | rfl
        · cases ho'
          conv=>whnf
          exact⟨⟨_,rfl⟩,_,rfl,stp (Sub.refl _) rfl⟩
        · cases ho'
          conv=>whnf
          exact⟨⟨_,rfl⟩,_,rfl,stp (Sub.refl _) rfl⟩
        · cases ho'
          have h0:V 0=.map (some nb):=get 0 (by kernel_rfl)
          have h1:V 1=.int .i64 T:=get 1 (by kernel_rfl)
          conv=>whnf
          rw[h0,h1]
          refine lookM (.inr (ins_same _ _ _)) hut fun z=>?_
          conv=>whnf
          exact⟨⟨_,rfl⟩,_,rfl,stp (Sub.refl _) rfl⟩
        · cases ho'
          conv=>whnf
          exact⟨⟨_,rfl⟩,_,rfl,stp (Sub.refl _) rfl⟩
        · cases ho'
          have h3:V 3=.pointer (some ⟨rb,0,none⟩):=get 3 (by kernel_rfl)
          conv=>whnf
          rw[h3]
          conv=>whnf
          exact⟨⟨_,rfl⟩,_,rfl,stp (Sub.refl _) rfl⟩
        · cases ho'
          have h4:V 4=.pointer (some ⟨rb,0,none⟩):=get 4 (by kernel_rfl)
          conv=>whnf
          rw[h4]
          conv=>whnf
          exact⟨⟨_,rfl⟩,_,rfl,stp (Sub.refl _) rfl⟩
        · cases ho'
          have h5:V 5=.pointer (some ⟨rb,3,none⟩):=get 5 (by kernel_rfl)
          conv=>whnf
          rw[h5]
          conv=>whnf
          refine⟨[.map (some mb)],⟨rfl,rfl,_,_,_,.inr (hR _),rfl⟩,?_⟩
          conv=>whnf
          exact⟨⟨_,rfl⟩,_,rfl,stp (Sub.refl _) rfl⟩
        · cases ho'
          conv=>whnf
          exact⟨⟨_,rfl⟩,_,rfl,stp (Sub.refl _) rfl⟩
        · cases ho'
          have h6:V 6=.map (some mb):=get 6 (by kernel_rfl)
          have h7:V 7=.int .i64 B:=get 7 (by kernel_rfl)
          conv=>whnf
          rw[h6,h7]
          refine lookM (.inr (hM _)) hub fun z=>?_
          conv=>whnf
          exact⟨⟨_,rfl⟩,_,rfl,stp (Sub.refl _) rfl⟩
        · cases ho'
          conv=>whnf
          exact⟨⟨_,rfl⟩,_,rfl,stp (Sub.refl _) rfl⟩
        · cases ho'
          have h9:V 9=.pointer (some ⟨b3,1,none⟩):=get 9 (by kernel_rfl)
          conv=>whnf
          rw[h9]
          conv=>whnf
          refine⟨[.slice (some ⟨wb,wo,none⟩) 1 wc0],⟨rfl,rfl,_,_,_,.inl (hI.sub _ _ hb3q),rfl⟩,?_⟩
          conv=>whnf
          exact⟨⟨_,rfl⟩,_,rfl,stp (Sub.refl _) rfl⟩
        · cases ho'
          have h10:V 10=.slice (some ⟨wb,wo,none⟩) 1 wc0:=get 10 (by kernel_rfl)
          conv=>whnf
          rw[h10]
          conv=>whnf
          exact⟨⟨_,rfl⟩,_,rfl,stp (Sub.refl _) rfl⟩
        · cases ho'
          have h11:V 11=.pointer (some ⟨wb,wo+0*1,none⟩):=get 11 (by kernel_rfl)
          conv=>whnf
          rw[h11]
          conv=>whnf
          refine⟨_,hwr _ _ (s3.trans (q2.trans hI.sub)),?_⟩
          conv=>whnf
          exact⟨⟨_,rfl⟩,_,rfl,stp (Sub.refl _) rfl⟩
        · cases ho'
          conv=>whnf
          exact⟨⟨_,rfl⟩,_,rfl,stp (Sub.refl _) rfl⟩
        · cases ho'
          have h8:V 8=ub:=get 8 (by kernel_rfl)
          have h12:V 12=.int .i64 k:=get 12 (by kernel_rfl)
          have h13:V 13=.int .i64 o:=get 13 (by kernel_rfl)
          conv=>whnf
          rw[h8,h12,h13]
          refine (Cl.newM (by omega) (by omega) (e85 (l.getD B []) k o r1 (2 ^ n) hN r2 r3 (by omega) H' ub (hmb.up (q2.trans hI.sub)))).use fun v5 H5 s5 hv5=>?_
          obtain⟨_,hv5⟩:=hv5
          conv=>whnf
          exact⟨⟨_,rfl⟩,_,rfl,stp s5 (hv5.base hI.sub)⟩
        · cases ho'
          have h14:MatN H4 H' (V 14) (keptM (l.getD B []) k o):=get 14 (by kernel_rfl)
          obtain⟨vb5,vc5,e14⟩:=MatH.sl h14.mat
          have h14m:=h14.mat
          rw[e14] at h14m
          conv=>whnf
          rw[e14]
          conv=>whnf
          intro b5 hb5 hO5
          have s5:=sub_ins H' (.cells ⟨[.slice vb5 (keptM (l.getD B []) k o).length vc5]⟩ 23 (0,0)) hb5
          exact⟨⟨_,rfl⟩,_,rfl,stp s5 ⟨b5,_,rfl,ins_same _ _ _,h14m.up s5⟩⟩
        · cases ho'
          have h2:V 2=ut:=get 2 (by kernel_rfl)
          obtain⟨b5,u5,e15,h15,h15'⟩:∃ b u,V 15=.slice (some ⟨b,0,none⟩) 1 1∧H' b=some (.cells ⟨[u]⟩ 23 (0,0))∧MatH H' u (keptM (l.getD B []) k o):=get 15 (by kernel_rfl)
          conv=>whnf
          rw[h2,e15]
          refine (e86n (nowAt (2 ^ n) l k b B o T) [keptM (l.getD B []) k o] hA (by simp) (by intro x hx;cases hx with | head=>rw[kept_shape,r2];omega | tail _ h=>cases h) H' ut _ (hmt.up hI.sub) (one_mats h15 h15')).use fun v5 H5 s5 hv5=>?_
          obtain⟨_,hv5⟩:=hv5
          conv=>whnf
          exact⟨⟨_,rfl⟩,_,rfl,stp s5 (hv5.base hI.sub)⟩
        · cases ho'
          have h16:OutN H4 H' (V 16) (addedM (nowAt (2 ^ n) l k b B o T) [keptM (l.getD B []) k o]):=get 16 (by kernel_rfl)
          conv=>whnf
          exact⟨⟨_,rfl⟩,_,rfl,stp (Sub.refl _) h16⟩
        · cases ho'
          obtain⟨u5,e17,h17⟩:OutN H4 H' (V 17) (addedM (nowAt (2 ^ n) l k b B o T) [keptM (l.getD B []) k o]):=get 17 (by kernel_rfl)
          conv=>whnf
          rw[e17]
          conv=>whnf
          exact⟨⟨_,rfl⟩,_,rfl,stp (Sub.refl _) h17⟩
        · cases ho'
          obtain⟨u5,e17,h17⟩:OutN H4 H' (V 17) (addedM (nowAt (2 ^ n) l k b B o T) [keptM (l.getD B []) k o]):=get 17 (by kernel_rfl)
          conv=>whnf
          rw[e17]
          conv=>whnf
          exact⟨⟨_,rfl⟩,_,rfl,stp (Sub.refl _) rfl⟩
        · cases ho'
          have h18:((addedM (nowAt (2 ^ n) l k b B o T) [keptM (l.getD B []) k o]).1=[]∧V 18=.slice none 0 0)∨MatN H4 H' (V 18) (addedM (nowAt (2 ^ n) l k b B o T) [keptM (l.getD B []) k o]).1:=get 18 (by kernel_rfl)
          conv=>whnf
          exact⟨⟨_,rfl⟩,_,rfl,stp (Sub.refl _) h18⟩
        · cases ho'
          have h19:V 19=.int .i64 (addedM (nowAt (2 ^ n) l k b B o T) [keptM (l.getD B []) k o]).2:=get 19 (by kernel_rfl)
          conv=>whnf
          exact⟨⟨_,rfl⟩,_,rfl,stp (Sub.refl _) h19⟩
      · intro L V H' O' hI hall
        have hO':=hI.own
        subst hO'
        have h20:=hI.sp 20 (hall 20 (by decide))
        have h21:V 21=.int .i64 (addedM (nowAt (2 ^ n) l k b B o T) [keptM (l.getD B []) k o]).2:=hI.sp 21 (hall 21 (by decide))
        have s4':=hI.sub
        conv=>whnf
        rw[h21]
        conv=>whnf
        refine if_intro (fun he=>?_) (fun he=>?_)
        · have he:(addedM (nowAt (2 ^ n) l k b B o T) [keptM (l.getD B []) k o]).2 ≠ 0:=by simpa using he
          cases hbit:B.testBit b with
          | false=>
            rw[nst1,hbit,if_neg (by simp)] at he
            exact absurd (rfl:((keptM (l.getD B []) k o,(0:Int)):Mx × Int).2=0) he
          | true=>
            rw[hbit,if_pos rfl] at nst1
            rw[nst1] at he
            obtain⟨w1,w2⟩:=meas_bad hq hbq hl hr (by omega) he
            conv=>whnf
            refine⟨?_,fun h=>?_⟩
            · show V 21=_
              rw[h21,nst1,w1,w2]
            · rw[w1] at h
              cases h
        have he:(addedM (nowAt (2 ^ n) l k b B o T) [keptM (l.getD B []) k o]).2=0:=by simpa using he
        have hst:=nst2 he
        have hnow:MatN H4 H' (V 20) (addedM (nowAt (2 ^ n) l k b B o T) [keptM (l.getD B []) k o]).1:=by
          rcases h20 with⟨e,_⟩ | h
          · exfalso
            rw[nst1] at e he
            cases hbit:B.testBit b with
            | false=>
              rw[hbit,if_neg (by simp)] at e
              have e:keptM (l.getD B []) k o=[]:=e
              rw[e] at k2
              simp at k2
              omega
            | true=>
              rw[hbit,if_pos rfl] at e he
              obtain⟨_,_,_,_,e2,_⟩:=add_errs0 (show (AddMF _ _).2=0 from he)
              have e:(AddMF (keptM (l.getD (clB T b) []) k (bitN T b)) (keptM (l.getD (clB T b+2 ^ b) []) k (bitN T b))).1=[]:=e
              have e3:=congrArg List.length e
              rw[e2,gridM_len,kept_shape,(hr.at (i:=clB T b) (by have:=(low_lt q hq b hbq T htl).1;omega)).2.1] at e3
              simp at e3
              try omega
          · exact h
        conv=>whnf
        refine putM (us:=us3) (clk:=us3.length) (k:=T) (ins_same _ _ _) (by rw[q3.1,now_len];omega) ?_
        conv=>whnf
        refine⟨(o+1,H',us3.set T (V 20)),⟨ho,q2.trans s4',?_,?_⟩,by dsimp only;omega,?_⟩
        · dsimp only
          rw[hst]
          exact q3.set (h00.trans q2) s4' hnow
        · dsimp only
          intro t ht hcam
          by_cases hne:t=T
          · subst hne
            cases hbit:B.testBit b with
            | false=>
              have:=(cam_low B (by omega) b (by omega) o ho hbit).2.2.2.1
              rw[hT,hcam] at this
              cases this
            | true=>
              rw[nst1,hbit,if_pos rfl] at he
              exact he
          · rw[(cam_other B (by omega) b (by omega) o ho t (by omega) (by rw[hT];exact hne)).2] at hcam
            exact q4 t ht hcam
        refine⟨rfl,?_,?_⟩
        · dsimp only
          rw[List.length_set]
          exact (ins_ins _ _ _ _).symm
        conv=>whnf
        repeat (refine⟨rfl,?_⟩;conv=>whnf)
        refine⟨by show En.v (.int .i64 (IntKind.i64.wrap (o+1)))=_;rw[wrap_id (by omega) (by omega)]<;>rfl,?_⟩
        conv=>whnf
        repeat (refine⟨rfl,?_⟩;conv=>whnf)
        exact trivial
    have ho:o=2:=by
      have:=of_decide_eq_false hc
      omega
    subst ho
    rw[now_next hq hbq hl hB] at q3
    conv=>whnf
    refine⟨(B+1,H4,us3),⟨hB,q2,q3,fun t ht h=>q4 t ht (by rw[(cam_next B (by omega) b (by omega) t (by omega)).2];exact h)⟩,by dsimp only;omega,?_⟩
    refine⟨rfl,rfl,?_⟩
    conv=>whnf
    repeat (refine⟨rfl,?_⟩;conv=>whnf)
    refine⟨by show En.v (.int .i64 (IntKind.i64.wrap (B+1)))=_;rw[wrap_id (by omega) (by omega)]<;>rfl,?_⟩
    conv=>whnf
    repeat (refine⟨rfl,?_⟩;conv=>whnf)
    exact trivial
  have hB:B=2 ^ q:=by
    have:=of_decide_eq_false hc
    omega
  subst hB
  have hok:=meas_ok (l:=l) (k:=k) (b:=b) fun t ht=>p4 t ht (low_lt q hq b hbq t (by omega)).2.2
  rw[now_done hq hbq hl] at p3
  dsimp only
  conv=>whnf
  refine⟨_,_,hR _,(by show 4≤5;decide),?_⟩
  conv=>whnf
  rw[hok]
  refine⟨rfl,fun _=>⟨nb,us2,ins_same _ _ _,(ins_ne _ _ (Ne.symm hrn)).trans (ins_same _ _ _),p3⟩⟩
end Go.Proofs.YtodmckckapmmoaaGreatDoor

namespace Go.Proofs.YtodmckckapmmoaaGreatDoor
open Go.Proofs.YtodmckckapmmoaaGreatDoor.X Go.Proofs.YtodmckckapmmoaaGreatDoor.X.PH
set_option maxRecDepth 100000
def polGa : Tmp→Pol:=fun | 3=>.imm | 70=>.imm | _=>.loc
def gateC (g : Gt) (n:Int) (l:List Mx) (t:Nat):Mx × Int:=if 0 < g.cond∧t.testBit (g.cond - 1).toNat=false then (l.getD t [],0) else if g.kind=14 then resetR (l.getD t []) (g.ws.getD 0 0) n else aroundM (l.getD t []) (unitG g n)
def gateL (l : List Mx) (g:Gt) (n:Int):List Mx × Int:=if firstErr ((List.range l.length).map fun t=>(gateC g n l t).2) ≠ 0 then ([],firstErr ((List.range l.length).map fun t=>(gateC g n l t).2)) else ((List.range l.length).map fun t=>(gateC g n l t).1,0)
theorem around_right {m u : Mx} {N:Nat} (hn:0 < N∧N≤64) (l0:m.length=N) (w0:wideM m=N) (l1:u.length=N) (w1:wideM u=N) (he:(aroundM m u).2=0):checkMF (aroundM m u).1=0∧(aroundM m u).1.length=N∧wideM (aroundM m u).1=N:=by
  unfold aroundM thenM at he ⊢
  by_cases h1:(MulMF u m).2 ≠ 0
  · rw[if_pos h1] at he;exact absurd he h1
  rw[if_neg h1] at he ⊢
  have h1:(MulMF u m).2=0:=by simpa using h1
  obtain⟨cu,_⟩:=mul_errs0 h1
  obtain⟨p1,p2,p3,p4⟩:=mul_ex hn l1 w1 l0 w0 h1
  obtain⟨ed,cd⟩:=dag_ok cu
  have dl:(DaggerMF u).1.length=N:=by rw[ed,w1];exact gridM_len _ _ _
  have dw:wideM (DaggerMF u).1=N:=by rw[ed,w1,l1];exact (grid_right _ hn.1 hn.2 hn.1 hn.2).2
  obtain⟨q1,q2,q3,q4⟩:=mul_ex hn p2 p3 dl dw he
  exact⟨q1,q2,q3⟩
theorem add_right {m o : Mx} {N:Nat} (hn:0 < N∧N≤64) (l0:m.length=N) (w0:wideM m=N) (he:(AddMF m o).2=0):checkMF (AddMF m o).1=0∧(AddMF m o).1.length=N∧wideM (AddMF m o).1=N:=by
  obtain⟨c1,c2,e1,e2,e,h0⟩:=add_errs0 he
  rw[l0,w0] at e h0
  have key:∀ i k,i < N→k < N→IsL (addAt m o i k).1:=fun i k hi hk=>by
    have h:=h0 i k hi hk
    unfold addAt at h ⊢
    rw[Add_eq] at h ⊢
    exact Add_L h
  obtain⟨g1,g2⟩:=grid_check (F:=addAt m o) hn.1 hn.2 fun i k hi hk=>(key i k hi hk).ok
  rw[e]
  exact⟨g1,gridM_len _ _ _,g2⟩
theorem reset_right {m : Mx} {n k:Nat} (hn:n≤4) (hk:k < n) (hc:checkMF m=0) (l0:m.length=2 ^ n) (w0:wideM m=2 ^ n) (he:(resetR m k n).2=0):checkMF (resetR m k n).1=0∧(resetR m k n).1.length=2 ^ n∧wideM (resetR m k n).1=2 ^ n:=by
  have hN:=pow_le16 hn
  have hN0:0 < 2 ^ n:=Nat.pow_pos (by decide)
  unfold resetR at he ⊢
  rw[Int.toNat_natCast] at he ⊢
  unfold thenM at he ⊢
  obtain⟨c1,l1,w1,_⟩:=kept_facts hc l0 w0 k 1
  obtain⟨c0,l2,w2,_⟩:=kept_facts hc l0 w0 k 0
  split at he
  · rename_i h;exact absurd he h
  rename_i h
  rw[if_neg h]
  exact add_right ⟨hN0,by omega⟩ l2 w2 he
theorem gateC_right {g : Gt} {n:Nat} {l:List Mx} {t:Nat} (hn:n≤4) (f14:g.kind=14→∃ k:Nat,g.ws=[(k:Int)]∧k < n) (fg:g.kind ≠ 14→gErr g n=0) (hr:AllR (2 ^ n) l) (ht:t < l.length) (he:(gateC g n l t).2=0):checkMF (gateC g n l t).1=0∧(gateC g n l t).1.length=2 ^ n∧wideM (gateC g n l t).1=2 ^ n:=by
  have hN:=pow_le16 hn
  have hN0:0 < 2 ^ n:=Nat.pow_pos (by decide)
  have r:=hr.at ht
  unfold gateC at he ⊢
  split at he
  · rename_i h;rw[if_pos h];exact r
  rename_i h
  rw[if_neg h]
  split at he
  · rename_i h14
    rw[if_pos h14]
    obtain⟨k,e,hk⟩:=f14 h14
    rw[show g.ws.getD 0 0=(k:Int) by rw[e];rfl] at he ⊢
    exact reset_right hn hk r.1 r.2.1 r.2.2 he
  · rename_i h14
    rw[if_neg h14]
    obtain⟨m1,m2⟩:=made_err g (n:=n) (by omega)
    obtain⟨_,u1,u2⟩:=m2 (fg h14)
    exact around_right ⟨hN0,by omega⟩ r.2.1 r.2.2 u1 u2 he
theorem gateL_right {g : Gt} {n:Nat} {l:List Mx} (hn:n≤4) (f14:g.kind=14→∃ k:Nat,g.ws=[(k:Int)]∧k < n) (fg:g.kind ≠ 14→gErr g n=0) (hr:AllR (2 ^ n) l) (he:(gateL l g n).2=0):(gateL l g n).1.length=l.length∧AllR (2 ^ n) (gateL l g n).1:=by
  unfold gateL at he ⊢
  split at he
  · rename_i h;exact absurd he h
  rename_i h
  rw[if_neg h]
  have h0:=firstErr_zero (by simpa using h)
  refine⟨by simp,fun m hm=>?_⟩
  obtain⟨t,ht,rfl⟩:=List.mem_map.1 hm
  exact gateC_right hn f14 fg hr (List.mem_range.1 ht) (h0 _ (List.mem_map.2 ⟨t,ht,rfl⟩))
theorem measL_right {N q : Nat} {l:List Mx} {k b:Nat} (hN:0 < N∧N≤64) (hq:q < 5) (hb:b < q) (hl:l.length=2 ^ q) (hr:AllR N l) (he:(measL l k b).2=0):(measL l k b).1.length=l.length∧AllR N (measL l k b).1:=by
  unfold measL at he ⊢
  split at he
  · rename_i h;exact absurd he h
  rename_i h
  rw[if_neg h]
  have h0:=firstErr_zero (by simpa using h)
  refine⟨by simp,fun m hm=>?_⟩
  obtain⟨t,ht,rfl⟩:=List.mem_map.1 hm
  have htl:=List.mem_range.1 ht
  have r:=hr.at (i:=clB t b) (by have:=(low_lt q hq b hb t (by omega)).1;omega)
  obtain⟨k1,k2,k3,_⟩:=kept_facts r.1 r.2.1 r.2.2 k (bitN t b)
  exact add_right hN k2 k3 (h0 _ (List.mem_map.2 ⟨t,ht,rfl⟩))
def gatedL (g : Gt) (n:Int) (l:List Mx) (B:Nat):List Mx:=(List.range l.length).map fun t=>if t < B then (gateC g n l t).1 else l.getD t []
theorem gatedL_len (g : Gt) (n:Int) (l:List Mx) (B:Nat):(gatedL g n l B).length=l.length:=by simp[gatedL]
theorem gatedL_zero (g : Gt) (n:Int) (l:List Mx):gatedL g n l 0=l:=by
  unfold gatedL
  apply List.ext_getElem?
  intro t
  by_cases h:t < l.length
  · rw[List.getElem?_map,List.getElem?_range h,List.getElem?_eq_getElem h]
    simp[List.getD_eq_getElem?_getD,List.getElem?_eq_getElem h]
  · rw[List.getElem?_eq_none (by simp;omega),List.getElem?_eq_none (by omega)]
theorem gatedL_at {g : Gt} {n:Int} {l:List Mx} {B t:Nat} (ht:t < l.length):(gatedL g n l B)[t]?=some (if t < B then (gateC g n l t).1 else l.getD t []):=by
  unfold gatedL
  rw[List.getElem?_map,List.getElem?_range ht]
  rfl
theorem gatedL_step {g : Gt} {n:Int} {l:List Mx} {B:Nat} (hB:B < l.length):gatedL g n l (B+1)=(gatedL g n l B).set B (gateC g n l B).1:=by
  apply List.ext_getElem?
  intro t
  by_cases h:t < l.length
  · rw[gatedL_at h]
    by_cases e:B=t
    · subst e
      rw[List.getElem?_set_self (by rw[gatedL_len];exact h),if_pos (by omega)]
    · rw[List.getElem?_set_ne e,gatedL_at h]
      by_cases h2:t < B
      · rw[if_pos h2,if_pos (by omega)]
      · rw[if_neg h2,if_neg (by omega)]
  · rw[List.getElem?_eq_none (by rw[gatedL_len];omega),List.getElem?_eq_none (by rw[List.length_set,gatedL_len];omega)]
theorem gatedL_skip {g : Gt} {n:Int} {l:List Mx} {B:Nat} (hB:B < l.length) (h:gateC g n l B=(l.getD B [],0)):gatedL g n l (B+1)=gatedL g n l B:=by
  rw[gatedL_step hB]
  apply List.ext_getElem?
  intro t
  by_cases e:B=t
  · subst e
    rw[List.getElem?_set_self (by rw[gatedL_len];exact hB),gatedL_at hB,if_neg (by omega),h]
  · rw[List.getElem?_set_ne e]
theorem gate_ok {l : List Mx} {g:Gt} {n:Int} (h:∀ t,t < l.length→(gateC g n l t).2=0):gateL l g n=(gatedL g n l l.length,0):=by
  have e:firstErr ((List.range l.length).map fun t=>(gateC g n l t).2)=0:=firstErr_all fun e he=>by
    obtain⟨s,hs,rfl⟩:=List.mem_map.1 he
    exact h s (List.mem_range.1 hs)
  unfold gateL
  rw[e,if_neg (by simp)]
  refine congrArg (·,(0:Int)) ?_
  unfold gatedL
  refine List.map_congr_left fun t ht=>?_
  rw[if_pos (List.mem_range.1 ht)]
theorem firstErr_range {f : Nat→Int} {L B:Nat} (hB:B < L) (h0:∀ t,t < B→f t=0) (h:f B ≠ 0):firstErr ((List.range L).map f)=f B:=by
  have go:∀ d i,i+d=B→firstErr (((List.range L).drop i).map f)=f B:=by
    intro d
    induction d with
    | zero=>
      intro i hi
      rw[Nat.add_zero] at hi
      subst hi
      rw[firstErr_step f (by simpa using hB),List.getElem_range,if_neg h]
    | succ d ih=>
      intro i hi
      rw[firstErr_step f (i:=i) (by simp;omega),List.getElem_range,if_pos (h0 i (by omega))]
      exact ih (i+1) (by omega)
  exact go B 0 (by omega)
theorem gate_bad {l : List Mx} {g:Gt} {n:Int} {B:Nat} (hB:B < l.length) (h0:∀ t,t < B→(gateC g n l t).2=0) (h:(gateC g n l B).2 ≠ 0):gateL l g n=([],(gateC g n l B).2):=by
  unfold gateL
  rw[firstErr_range (f:=fun t=>(gateC g n l t).2) hB h0 h,if_pos h]
theorem ins_at {O : PH} {b:Nat} {x:Obj} (h:O b=some x):ins O b x=O:=by
  funext n
  by_cases e:n=b
  · rw[e,h];exact ins_same _ _ _
  · exact ins_ne _ _ e
theorem gate_facts {g : Gt} {n q:Nat} (hn:n≤4) (hq:q < 5) (h:gateErr g n q=0):(0≤g.cond∧g.cond≤q∧g.ws.length≤3)∧(g.kind=13→g.cond=0∧(∃ b:Nat,g.bit=b∧b < q)∧∃ k:Nat,g.ws=[(k:Int)]∧k < n)∧(g.kind=14→g.cond=0∧∃ k:Nat,g.ws=[(k:Int)]∧k < n)∧(g.kind ≠ 13→g.kind ≠ 14→gErr g n=0):=by
  unfold gateErr at h
  by_cases h1:arityF g.kind=0
  · rw[if_pos h1] at h;cases h
  rw[if_neg h1] at h
  by_cases h2:(g.ws.length:Int) ≠ arityF g.kind
  · rw[if_pos h2] at h;cases h
  rw[if_neg h2] at h
  by_cases h3:g.ws.all (inW n)=false
  · rw[if_pos h3] at h;cases h
  rw[if_neg h3] at h
  by_cases h4:twiceF g.ws=true
  · rw[if_pos h4] at h;cases h
  rw[if_neg h4] at h
  by_cases h5:(offF g.cond 0 q || (g.kind == 13 && offF g.bit 0 (q - 1)))=true
  · rw[if_pos h5] at h;cases h
  rw[if_neg h5] at h
  by_cases h6:((decide (g.kind ≥ 13) && g.cond != 0) || (g.kind != 13 && g.bit != 0))=true
  · rw[if_pos h6] at h;cases h
  have ha:=arityF_range g.kind
  simp only[offF,Bool.or_eq_true,Bool.and_eq_true,decide_eq_true_eq,beq_iff_eq,not_or,not_and,bne_iff_ne,ne_eq,Decidable.not_not] at h2 h5 h6
  have one:arityF g.kind=1→∃ k:Nat,g.ws=[(k:Int)]∧k < n:=fun e=>by
    rw[e] at h2
    match hw:g.ws with
    | []=>rw[hw] at h2;cases h2
    | a::b::r=>rw[hw] at h2;simp at h2;omega
    | [a]=>
      rw[hw] at h3
      have:0≤a∧a < n:=by simpa[inW] using h3
      exact⟨a.toNat,by rw[show ((a.toNat:Nat):Int)=a by omega],by omega⟩
  refine⟨⟨by omega,by omega,by omega⟩,fun e=>⟨h6.1 (by omega),⟨g.bit.toNat,?_,?_⟩,one (by rw[e];rfl)⟩,fun e=>⟨h6.1 (by omega),one (by rw[e]<;>rfl)⟩,fun e1 e2=>?_⟩
  · have:=h5.2 e
    omega
  · have:=h5.2 e
    omega
  · have hk:¬ (g.kind < 1∨g.kind > 12):=fun hk=>by
      refine h1 ?_
      unfold arityF
      rw[if_neg (by omega),if_neg (by omega),if_neg (by omega)]
    unfold gErr placesR
    rw[if_neg hk,if_neg (by simpa using h2),if_neg h3,if_neg h4]
set_option maxHeartbeats 4000000 in
theorem e103 (H0 H O : PH) (h00:Sub H0 H) (rb mb:Nat) (gs f:Value) (us:List Value) (l:List Mx) (n q:Nat) (hn:n≤4) (hq:q < 5) (g:Gt) (hg:gateErr g n q=0) (hk13:g.kind ≠ 13) (w:Value) (hw:IntsC H w g.ws) (hl:l.length=2 ^ q) (hr:AllR (2 ^ n) l)
    (hO1:O rb=some (.cells ⟨[.int .i64 n,.int .i64 q,gs,.map (some mb),f]⟩ 108 (0,0))) (hO2:O mb=some (.map (entsM us) us.length)) (hm:MapN H0 H us l) :
    Cl Tryz.prog 103 [.pointer (some ⟨rb,0,none⟩),gv g w] H O fun r H' O'=>r=.int .i64 (gateL l g n).2∧((gateL l g n).2=0→∃ mb' us',O' rb=some (.cells ⟨[.int .i64 n,.int .i64 q,gs,.map (some mb'),f]⟩ 108 (0,0))∧O' mb'=some (.map (entsM us') us'.length)∧MapN H0 H' us' (gateL l g n).1):=by
  have hN:=pow_le16 hn
  have hQ:2 ^ q≤16:=Nat.pow_le_pow_right (by decide) (by omega:q≤4)
  have hN0:0 < 2 ^ n:=Nat.pow_pos (by decide)
  obtain⟨⟨c1,c2,c3⟩,_,f14,fg⟩:=gate_facts hn hq hg
  replace fg:=fg hk13
  obtain⟨wb,wc,rfl,hwc,hwi⟩:=id hw
  refine Cl_of (pol:=polGa) Γok Tryz.func103 (by kernel_rfl) rfl ?_
  conv=>whnf
  intro b3 hb3 hOb3
  conv=>whnf
  have hrb:rb ≠ mb:=fun e=>by rw[e,hO2] at hO1;cases hO1
  have s3:=sub_ins H (.cells ⟨[.int .i64 g.kind,.slice wb g.ws.length wc,.int .i64 g.bit,.int .i64 g.cond]⟩ 42 (0,0)) hb3
  have hb3':=ins_same H b3 (.cells ⟨[.int .i64 g.kind,.slice wb g.ws.length wc,.int .i64 g.bit,.int .i64 g.cond]⟩ 42 (0,0))
  replace hm:=hm.up s3
  replace h00:=h00.trans s3
  replace hw:=hw.up s3
  generalize ins H b3 (.cells ⟨[.int .i64 g.kind,.slice wb g.ws.length wc,.int .i64 g.bit,.int .i64 g.cond]⟩ 42 (0,0))=H1 at s3 hb3' hm h00 hw ⊢
  have hR:∀ us1:List Value,ins O mb (.map (entsM us1) us1.length) rb=some (.cells ⟨[.int .i64 n,.int .i64 q,gs,.map (some mb),f]⟩ 108 (0,0)):=fun us1=>(ins_ne _ _ hrb).trans hO1
  refine⟨_,⟨rfl,rfl,_,_,_,.inr hO1,rfl⟩,?_⟩
  conv=>whnf
  rw[shl_nat (by omega)]
  refine W_loop (pol:=polGa) Γok (Nat × PH × List Value) (fun i=>i.1≤2 ^ q∧Sub H1 i.2.1∧MapN H0 i.2.1 i.2.2 (gatedL g n l i.1)∧∀ t,t < i.1→(gateC g n l t).2=0) (fun i=>2 ^ q - i.1) (fun i=>[(14,.v (.int .i64 i.1))]) (fun _=>[]) (fun i=>i.2.1) (fun i=>ins O mb (.map (entsM i.2.2) i.2.2.length)) ⟨(0,H1,us),⟨by simp,Sub.refl _,by rw[gatedL_zero];exact hm,fun t h=>by omega⟩,rfl,ins_at hO2,?_⟩ ?_
  · conv=>whnf
    repeat (refine⟨rfl,?_⟩;conv=>whnf)
    exact trivial
  rintro ⟨B,H2,us1⟩ ⟨p1,p2,p3,p4⟩
  dsimp only at p1 p2 p3 p4
  conv=>whnf
  refine if_intro (fun hc=>?_) (fun hc=>?_)
  · have hB:B < 2 ^ q:=by
      have:=of_decide_eq_true hc
      omega
    conv=>whnf
    have hgetB:(gatedL g n l B)[B]'(by rw[gatedL_len];omega)=l.getD B []:=by
      have:=gatedL_at (g:=g) (n:=n) (l:=l) (B:=B) (t:=B) (by omega)
      rw[List.getElem?_eq_getElem (by rw[gatedL_len];omega),if_neg (by omega)] at this
      exact Option.some.inj this
    obtain⟨ub,hub,hmb⟩:=p3.at (b:=B) (by rw[gatedL_len];omega)
    rw[hgetB] at hmb
    obtain⟨r1,r2,r3⟩:=hr.at (i:=B) (by omega)
    refine if_intro (fun hcp=>?ya) (fun hcp=>?yb)
    case' ya=>
      have hcp:0 < g.cond:=of_decide_eq_true hcp
      have hw1:IntKind.i64.wrap (g.cond - 1)=((g.cond - 1).toNat:Nat):=by rw[wrap_id (by omega) (by omega)];omega
      conv=>whnf
      rw[hw1]
      refine if_intro (fun hbit=>?_) (fun hbit=>?_)
      · have hbit:(andI (shrI (B:Int) ((g.cond - 1).toNat:Int)) 1 == 0)=true:=hbit
        have htb:B.testBit (g.cond - 1).toNat=false:=by
          rw[bit_cond (by omega) (by omega)] at hbit
          cases h:B.testBit (g.cond - 1).toNat with
          | false=>rfl
          | true=>rw[h] at hbit;simp at hbit
        have hgc:gateC g n l B=(l.getD B [],0):=if_pos ⟨hcp,htb⟩
        conv=>whnf
        refine⟨(B+1,H2,us1),⟨hB,p2,by dsimp only;rw[gatedL_skip (by omega) hgc];exact p3,fun t ht=>?_⟩,by dsimp only;omega,?_⟩
        · by_cases e:t=B
          · rw[e,hgc]
          · exact p4 t (by dsimp only at ht;omega)
        refine⟨rfl,rfl,?_⟩
        conv=>whnf
        repeat (refine⟨rfl,?_⟩;conv=>whnf)
        refine⟨by show En.v (.int .i64 (IntKind.i64.wrap (B+1)))=_;rw[wrap_id (by omega) (by omega)]<;>rfl,?_⟩
        conv=>whnf
        repeat (refine⟨rfl,?_⟩;conv=>whnf)
        exact trivial
      have hbit:(andI (shrI (B:Int) ((g.cond - 1).toNat:Int)) 1 == 0)=false:=hbit
      have hgc:gateC g n l B=if g.kind=14 then resetR (l.getD B []) (g.ws.getD 0 0) n else aroundM (l.getD B []) (unitG g n):=if_neg fun h=>by
        rw[bit_cond (by omega) (by omega),h.2] at hbit
        simp at hbit
    case' yb=>
      have hcp:¬ 0 < g.cond:=of_decide_eq_false hcp
      have hgc:gateC g n l B=if g.kind=14 then resetR (l.getD B []) (g.ws.getD 0 0) n else aroundM (l.getD B []) (unitG g n):=if_neg fun h=>hcp h.1
    all_goals
      conv=>whnf
      refine W_draw (pol:=polGa) Γok mixes [(0,.pendO),(1,.pendO),(2,.pendO),(3,.pendO),(4,.pendO),(6,.pend),(5,.lock),(7,.lock),(8,.pendO),(9,.pendO),(10,.pendO),(11,.pendO),(12,.pendO)] 67 (by kernel_rfl) rfl ?_
      conv=>whnf
      refine⟨[.map (some mb)],⟨rfl,rfl,_,_,_,.inr (hR _),rfl⟩,?_⟩
      conv=>whnf
      refine lookM (.inr (ins_same _ _ _)) hub fun z=>?_
      conv=>whnf
      refine (Cl.newO (e83 (l.getD B []) g (by omega) (by omega) _ _ _ hmb (hw.up p2))).use fun r Ha sa hr=>?_
      obtain⟨_,v,rfl,hv⟩:=hr
      conv=>whnf
      generalize hX:thenM (madeM g (sizeD (l.getD B []).length)) (aroundM (l.getD B []))=X at hv ⊢
      refine if_intro (fun h14=>?_) (fun h14=>?_)
      case' _=>
        have h14:g.kind=14:=by simpa using h14
        rw[if_pos h14] at hgc
        obtain⟨_,k,hgw,hkn⟩:=f14 h14
        obtain⟨wb',wo,ew,hwr⟩:=IntsH.at hwi (i:=0) (by rw[hgw];simp)
        have hg0:(g.ws[0]'(by rw[hgw];simp))=(k:Int):=by simp[hgw]
        rw[hg0] at hwr
        rw[show g.ws.getD 0 0=(k:Int) by rw[hgw];rfl] at hgc
        conv=>whnf
        refine W_draw (pol:=polGa) Γok mixes [(0,.pendO),(1,.pendO),(2,.pendO),(3,.pendO),(4,.pendO),(6,.pend),(7,.pend),(8,.pend),(9,.pend),(5,.lock),(10,.lock),(11,.pendO),(12,.pendO),(13,.pendO),(14,.pendO),(15,.pendO)] 67 (by kernel_rfl) rfl ?_
        conv=>whnf
        refine⟨[.map (some mb)],⟨rfl,rfl,_,_,_,.inr (hR _),rfl⟩,?_⟩
        conv=>whnf
        rw[ew]
        conv=>whnf
        refine dec_intro (by simp[hgw]) ?_
        conv=>whnf
        refine⟨_,hwr _ _ (s3.trans (p2.trans sa)),?_⟩
        conv=>whnf
        refine lookM (.inr (ins_same _ _ _)) hub fun z=>?_
        conv=>whnf
        refine (Cl.newO (e87 (l.getD B []) n k r1 r2 r3 hn hkn _ _ (hmb.up sa))).use fun r Ha sb hr=>?_
        obtain⟨_,v,rfl,hv⟩:=hr
        rw[← hgc] at hv ⊢
        have sv:Sub H2 Ha:=sa.trans sb
        replace hv:=hv.imp id fun h=>h.base sa
        conv=>whnf
      rotate_left
      case' _=>
        have h14:¬ g.kind=14:=by simpa using h14
        rw[if_neg h14] at hgc
        obtain⟨m1,m2⟩:=made_err g (n:=n) (by omega)
        rw[show sizeD (l.getD B []).length=n by rw[r2];exact sizeD_at n (by omega),thenM_ok (by rw[m1];exact fg h14),(m2 (fg h14)).1,← hgc] at hX
        subst hX
        have sv:Sub H2 Ha:=sa
        conv=>whnf
      all_goals
        refine if_intro (fun he=>?_) (fun he=>?_)
        · have he:(gateC g n l B).2 ≠ 0:=by simpa using he
          have hbad:=gate_bad (by omega) p4 he
          conv=>whnf
          refine⟨by rw[hbad],fun h=>?_⟩
          rw[hbad] at h
          exact absurd h he
        have he:(gateC g n l B).2=0:=by simpa using he
        conv=>whnf
        refine⟨[.map (some mb)],⟨rfl,rfl,_,_,_,.inr (hR _),rfl⟩,?_⟩
        conv=>whnf
        refine putM (us:=us1) (clk:=us1.length) (k:=B) (ins_same _ _ _) (by rw[p3.1,gatedL_len];omega) ?_
        conv=>whnf
        refine⟨(B+1,Ha,us1.set B v),⟨hB,p2.trans sv,?_,fun t ht=>?_⟩,by dsimp only;omega,?_⟩
        · dsimp only
          rw[gatedL_step (by omega)]
          refine p3.set (h00.trans p2) sv (hv.resolve_left fun h=>?_)
          have:=(gateC_right hn (fun h=>(f14 h).2) fg hr (by omega) he).2.1
          rw[h.1] at this
          simp at this
          omega
        · by_cases e:t=B
          · rw[e];exact he
          · exact p4 t (by dsimp only at ht;omega)
        refine⟨rfl,?_,?_⟩
        · dsimp only
          rw[List.length_set]
          exact (ins_ins _ _ _ _).symm
        conv=>whnf
        repeat (refine⟨rfl,?_⟩;conv=>whnf)
        refine⟨by show En.v (.int .i64 (IntKind.i64.wrap (B+1)))=_;rw[wrap_id (by omega) (by omega)]<;>rfl,?_⟩
        conv=>whnf
        repeat (refine⟨rfl,?_⟩;conv=>whnf)
        exact trivial
  have hB:B=2 ^ q:=by
    have:=of_decide_eq_false hc
    omega
  subst hB
  have hok:=gate_ok (l:=l) (g:=g) (n:=n) fun t ht=>p4 t (by omega)
  rw[← hl] at p3
  dsimp only
  conv=>whnf
  rw[hok]
  refine⟨rfl,fun _=>⟨mb,us1,hR _,ins_same _ _ _,p3⟩⟩
end Go.Proofs.YtodmckckapmmoaaGreatDoor

namespace Go.Proofs.YtodmckckapmmoaaGreatDoor
open Go.Proofs.YtodmckckapmmoaaGreatDoor.X Go.Proofs.YtodmckckapmmoaaGreatDoor.X.PH
set_option maxRecDepth 100000
def stepL (g : Gt) (n:Int) (l:List Mx):List Mx × Int:=if g.kind=13 then measL l (g.ws.getD 0 0).toNat g.bit.toNat else gateL l g n
def runG (n : Int):List Gt→List Mx→List Mx × Int
  | [],l=>(l,0)
  | g::gs,l=>if (stepL g n l).2 ≠ 0 then ([],(stepL g n l).2) else runG n gs (stepL g n l).1
def startL (m : Mx) (q:Nat):List Mx:=(LeastMF m).1::List.replicate (2 ^ q - 1) (zeroM m.length)
def runErr (c : Ct) (m:Mx):Int:=if circErr c ≠ 0 then circErr c else if denErr m ≠ 0 then denErr m else if sizeD m.length ≠ c.wires then 7 else if foundN c.gates > 8∨c.bits > 4 then 2 else 0
def runM (c : Ct) (m:Mx):List Mx × Int:=if runErr c m ≠ 0 then ([],runErr c m) else runG c.wires c.gates (startL m c.bits.toNat)
theorem least_right {m : Mx} {N:Nat} (hc:checkMF m=0) (h1:m.length=N) (hw:wideM m=N):(LeastMF m).2=0∧checkMF (LeastMF m).1=0∧(LeastMF m).1.length=N∧wideM (LeastMF m).1=N:=by
  have rm:=right_of hc
  have p1:0 < N:=by rw[← h1];exact rm.pos
  have p2:N≤64:=by rw[← h1];exact rm.le
  have e:LeastMF m=(m.map formsR,0):=by
    unfold LeastMF
    rw[← checkMF_checkMR,hc,if_neg (by simp)]
  have key:∀ i k,i < N→k < N→IsL (formR (entry m i k).1 (entry m i k).2):=fun i k hi hk=>form_L (entry_right hc (i:=i) (k:=k) (by omega) (by omega))
  have g:=gridM_shape (fun i k=>(formR (entry m i k).1 (entry m i k).2,0)) N N
  have eg:m.map formsR=gridM (fun i k=>(formR (entry m i k).1 (entry m i k).2,0)) N N:=by
    refine mat_ext (h:=N) (w:=N) (by simp[h1]) (fun i r hr=>?_) g.1 g.2 fun i k hi hk=>?_
    · obtain⟨r',hr',rfl⟩:=List.mem_map.1 (List.mem_of_getElem? hr)
      have:=rm.row r' hr'
      simp only[formsR,List.length_map]
      omega
    · have hi':i < m.length:=by omega
      have hk':k < (m[i]'hi').length:=by rw[rm.row _ (List.getElem_mem hi')];omega
      rw[forms_entry _ hi' hk',gridM_entry _ hi hk]
  obtain⟨c1,c2⟩:=grid_check (F:=fun i k=>(formR (entry m i k).1 (entry m i k).2,0)) p1 p2 fun i k hi hk=>(key i k hi hk).ok
  rw[e]
  dsimp only
  rw[eg]
  exact⟨rfl,c1,g.1,c2⟩
theorem start_right {m : Mx} {N q:Nat} (hc:checkMF m=0) (h1:m.length=N) (hw:wideM m=N):(startL m q).length=2 ^ q∧AllR N (startL m q):=by
  have rm:=right_of hc
  have p1:0 < N:=by rw[← h1];exact rm.pos
  have p2:N≤64:=by rw[← h1];exact rm.le
  have hQ0:0 < 2 ^ q:=Nat.pow_pos (by decide)
  refine⟨by unfold startL;rw[List.length_cons,List.length_replicate];omega,fun x hx=>?_⟩
  unfold startL at hx
  rcases List.mem_cons.1 hx with rfl | hx
  · exact (least_right hc h1 hw).2
  · rw[List.eq_of_mem_replicate hx,h1]
    obtain⟨a,b,c,_⟩:=zero_facts p1 p2
    exact⟨a,b,c⟩
theorem start_set {m : Mx} {q:Nat}:(List.replicate (2 ^ q) (zeroM m.length)).set 0 (LeastMF m).1=startL m q:=by
  have hQ0:0 < 2 ^ q:=Nat.pow_pos (by decide)
  unfold startL
  cases h:2 ^ q with
  | zero=>omega
  | succ x=>rfl
theorem step_right {g : Gt} {n q:Nat} {l:List Mx} (hn:n≤4) (hq:q < 5) (hg:gateErr g n q=0) (hl:l.length=2 ^ q) (hr:AllR (2 ^ n) l) (he:(stepL g n l).2=0):(stepL g n l).1.length=2 ^ q∧AllR (2 ^ n) (stepL g n l).1:=by
  have hN:=pow_le16 hn
  have hN0:0 < 2 ^ n:=Nat.pow_pos (by decide)
  obtain⟨_,f13,f14,fg⟩:=gate_facts hn hq hg
  unfold stepL at he ⊢
  split at he
  · rename_i h
    rw[if_pos h]
    obtain⟨_,⟨b,hb,hbq⟩,k,hk,hkn⟩:=f13 h
    rw[hb,Int.toNat_natCast] at he ⊢
    obtain⟨r1,r2⟩:=measL_right ⟨hN0,by omega⟩ hq hbq hl hr he
    exact⟨by omega,r2⟩
  · rename_i h
    rw[if_neg h]
    obtain⟨r1,r2⟩:=gateL_right hn (fun h=>(f14 h).2) (fg h) hr he
    exact⟨by omega,r2⟩
theorem circ_gates {c : Ct} (h:circErr c=0):∀ g∈c.gates,gateErr g c.wires c.bits=0:=fun g hg=>by
  unfold circErr at h
  split at h
  · cases h
  split at h
  · cases h
  exact firstErr_zero h _ (List.mem_map.2 ⟨g,hg,rfl⟩)
theorem MapN.base {H0 H1 H : PH} {us:List Value} {l:List Mx} (h:MapN H1 H us l) (hs:Sub H0 H1):MapN H0 H us l:=⟨h.1,h.2.up (newH_base hs)⟩
theorem parts_run {rb mb : Nat} {x y:Obj} (h:rb ≠ mb):Parts (ins (ins emp mb x) rb y) (ins emp rb y) (ins emp mb x):=by
  refine⟨fun n=>?_,fun n=>?_⟩
  · unfold un
    by_cases e:n=rb
    · subst e;rw[ins_same,ins_same]
    · rw[ins_ne _ _ e,ins_ne _ _ e]<;>rfl
  · by_cases e:n=rb
    · subst e;exact .inr (ins_ne _ _ h)
    · exact .inl (ins_ne _ _ e)
theorem un_run {rb mb : Nat} {x y z:Obj} (h:rb ≠ mb):un (ins emp rb y) (ins (ins emp mb x) mb z)=ins (ins emp mb z) rb y:=by
  rw[ins_ins]
  funext n
  unfold un
  by_cases e:n=rb
  · subst e;rw[ins_same,ins_same]
  · rw[ins_ne _ _ e,ins_ne _ _ e]<;>rfl
theorem lent_sub {H2 L Hx H3 : PH} (hd:Dis H2 L) (sx:Sub (un H2 L) Hx) (e1:∀ n,L n=none→H3 n=Hx n):Sub H2 H3∧Sub (newH (un H2 L) Hx) (newH H2 H3):=by
  refine⟨fun n o hn=>?_,fun n o hn=>?_⟩
  · have hl:L n=none:=(hd n).resolve_left (by rw[hn];simp)
    rw[e1 n hl]
    exact sx n o (sub_un _ _ n o hn)
  · unfold newH at hn ⊢
    cases h:H2 n with
    | some o'=>rw[show un H2 L n=some o' from sub_un _ _ n o' h] at hn;cases hn
    | none=>
      cases hl:L n with
      | some o'=>rw[show un H2 L n=some o' by unfold un;rw[h];exact hl] at hn;cases hn
      | none=>
        rw[show un H2 L n=none by unfold un;rw[h];exact hl] at hn
        show H3 n=some o
        rw[e1 n hl]
        exact hn
theorem MatN.re {H0 H H0' H' : PH} {u:Value} {m:Mx} (h:MatN H0 H u m) (hs:Sub (newH H0 H) (newH H0' H')):MatN H0' H' u m:=by
  obtain⟨a,b,h1,h2,h3⟩:=h
  exact⟨a,b,h1,h2,h3.up hs⟩
theorem ents_mem {us : List Value} {e:MapEntry} (h:e∈(entsM us).toList):∃ k,∃ hk:k < us.length,e={ key:=.int .i64 ((k:Nat):Int),val:=us[k],born:=k }:=by
  obtain⟨k,hk,he⟩:=List.mem_iff_getElem.1 (show e∈entsFrom 0 us from h)
  have hk':k < us.length:=by rw[entsFrom_len] at hk;exact hk
  refine⟨k,hk',?_⟩
  have:=entsFrom_get us 0 k _ (List.getElem?_eq_getElem hk')
  rw[List.getElem?_eq_getElem hk,Nat.zero_add] at this
  rw[← he]
  exact Option.some.inj this
theorem ents_in {us : List Value} {k:Nat} (hk:k < us.length):({ key:=.int .i64 ((k:Nat):Int),val:=us[k],born:=k }:MapEntry)∈(entsM us).toList:=by
  have:=entsFrom_get us 0 k _ (List.getElem?_eq_getElem hk)
  rw[Nat.zero_add] at this
  exact List.mem_of_getElem? this
theorem ents_born : ∀ (us:List Value) (a:Nat),(entsFrom a us).map (·.born)=(List.range us.length).map (a+·)
  | [],_=>rfl
  | u::us,a=>by
    rw[List.length_cons,List.range_succ_eq_map]
    simp only[entsFrom,List.map_cons,List.map_map,ents_born us (a+1)]
    rw[Nat.add_zero]
    refine congrArg (a::·) (List.map_congr_left fun x _=>?_)
    show a+1+x=a+(x+1)
    omega
theorem rangeM {H O : PH} {mb:Nat} {us:List Value} {K:PH→Value→Prop} (hO:O mb=some (.map (entsM us) us.length)) (h:∀ r:Nat,H r=none→O r=none→K (ins O r (.mapIter (some mb) us.length #[] us.length)) (.pointer (some ⟨r,0,none⟩))):rangeK H O (.map (some mb)) K:=by
  unfold rangeK
  exact⟨mb,_,_,rfl,.inr hO,h⟩
theorem nextM {H O : PH} {r mb:Nat} {us:List Value} {seen:Array Nat} {K:PH→Value→Prop} (hr:O r=some (.mapIter (some mb) us.length seen us.length)) (hO:O mb=some (.map (entsM us) us.length))
    (h0:(∀ k,k < us.length→seen.contains k=true)→K O (.tuple ⟨[.bool false]⟩))
    (h1:∀ k (hk:k < us.length),(leftOf (entsM us) (seen.push k)).size < (leftOf (entsM us) seen).size→K (ins O r (.mapIter (some mb) us.length (seen.push k) us.length)) (.tuple ⟨[.bool true,.int .i64 ((k:Nat):Int),us[k]]⟩)):nextK H O (.pointer (some ⟨r,0,none⟩)) K:=by
  unfold nextK
  refine⟨r,mb,us.length,us.length,seen,entsM us,us.length,rfl,hr,.inr hO,fun x hx=>?_,Nat.le_refl _,fun hz=>h0 fun k hk=>?_,fun e he=>?_⟩
  · obtain⟨k,hk,rfl⟩:=ents_mem hx
    exact hk
  · exact all_seen _ _ hz _ (ents_in hk)
  · obtain⟨k,hk,rfl⟩:=ents_mem (mem_left he).1
    exact h1 k hk (left_shrinks _ _ _ he)
theorem itemM {H O : PH} {r mb k:Nat} {us:List Value} {seen:Array Nat} {K:Value→Prop} (hk:k < us.length) (hr:O r=some (.mapIter (some mb) us.length (seen.push k) us.length)) (hO:O mb=some (.map (entsM us) us.length)) (h:K (.tuple ⟨[.int .i64 ((k:Nat):Int),us[k]]⟩)):itemK H O (.pointer (some ⟨r,0,none⟩)) K:=by
  unfold itemK
  refine⟨r,mb,us.length,seen,entsM us,us.length,_,rfl,hr,.inr hO,ents_in hk,?_,h⟩
  show ((entsFrom 0 us).map (·.born)).Nodup
  rw[ents_born]
  simp only[Nat.zero_add,List.map_id']
  exact List.nodup_range
end Go.Proofs.YtodmckckapmmoaaGreatDoor

namespace Go.Proofs.YtodmckckapmmoaaGreatDoor
open Go.Proofs.YtodmckckapmmoaaGreatDoor.X Go.Proofs.YtodmckckapmmoaaGreatDoor.X.PH
set_option maxRecDepth 100000
def polRn : Tmp→Pol:=fun | 63=>.own | _=>.loc
def OutL (H0 H M : PH) (r:Value) (x:List Mx × Int):Prop:=(x.1=[]∧r=.tuple #[.slice none 0 0,.int .i64 x.2])∨∃ us hb,r=.tuple #[.slice (some ⟨hb,0,none⟩) us.length us.length,.int .i64 x.2]∧M hb=some (.cells ⟨us⟩ 23 (0,0))∧MapN H0 H us x.1
theorem OutL.bad {H0 H M : PH} {e:Int}:OutL H0 H M (.tuple #[.slice none 0 0,.int .i64 e]) ([],e):=.inl ⟨rfl,rfl⟩
set_option maxHeartbeats 8000000 in
theorem e41 (c : Ct) (m:Mx) (hc:c.fit) (hm:m.length < 1000000) (H:PH) (v u:Value) (hv:CircH H v c) (hu:MatH H u m):Cl Tryz.prog 41 [v,u] H emp fun r H' M'=>OutL H H' M' r (runM c m):=by
  obtain⟨gb,gc,rfl,hg⟩:=hv.sl
  obtain⟨ub,uc,rfl⟩:=MatH.sl hu
  have hglen:=hc.1
  refine Cl_of (pol:=polRn) Γok Tryz.func41 (by kernel_rfl) rfl ?_
  conv=>whnf
  intro b1
  conv=>whnf
  refine (d88 c hc _ _ hv).val fun Ha sa=>?_
  conv=>whnf
  refine if_intro (fun ha=>?_) (fun ha=>?_)
  · have hb:runErr c m=circErr c:=if_pos (by simpa using ha)
    rw[show runM c m=([],circErr c) by unfold runM;rw[hb,if_pos (by simpa using ha)]]
    conv=>whnf
    exact OutL.bad
  have ha:circErr c=0:=by simpa using ha
  conv=>whnf
  refine (e48 m hm _ _ (hu.up sa)).val fun Hb sb=>?_
  conv=>whnf
  refine if_intro (fun hb=>?_) (fun hb=>?_)
  · have he:runErr c m=denErr m:=by unfold runErr;rw[if_neg (by rw[ha];simp),if_pos (by simpa using hb)]
    rw[show runM c m=([],denErr m) by unfold runM;rw[he,if_pos (by simpa using hb)]]
    conv=>whnf
    exact OutL.bad
  have hb:denErr m=0:=by simpa using hb
  conv=>whnf
  refine W_draw (pol:=polRn) Γok mixes [(0,.pendO),(1,.pendO),(3,.pend),(4,.pend),(2,.lock),(5,.pendO)] 137 (by kernel_rfl) rfl ?_
  conv=>whnf
  refine (e101 m.length _).val fun Hc sc=>?_
  conv=>whnf
  refine if_intro (fun hd=>?_) (fun hd=>?_)
  · have he:runErr c m=7:=by unfold runErr;rw[if_neg (by rw[ha];simp),if_neg (by rw[hb];simp),if_pos (by simpa using hd)]
    rw[show runM c m=([],7) by unfold runM;rw[he,if_pos (by simp)]]
    conv=>whnf
    exact OutL.bad
  have hd:sizeD m.length=c.wires:=by simpa using hd
  conv=>whnf
  refine W_loop (pol:=polRn) Γok (Nat × PH) (fun i=>i.1≤c.gates.length∧Sub Hc i.2) (fun i=>c.gates.length - i.1) (fun i=>[(8,.v (.int .i64 (foundN (c.gates.take i.1)))),(38,.v (.int .i64 i.1))]) (fun _=>[]) (fun i=>i.2) (fun _=>emp) ⟨(0,Hc),⟨by simp,Sub.refl _⟩,rfl,rfl,?_⟩ ?_
  · conv=>whnf
    repeat (refine⟨rfl,?_⟩;conv=>whnf)
    exact trivial
  rintro ⟨i,Hi⟩ ⟨h1i,hsi⟩
  dsimp only at h1i hsi
  conv=>whnf
  refine if_intro (fun hci=>?_) (fun hci=>?_)
  · have hii:i < c.gates.length:=by
      have:=of_decide_eq_true hci
      omega
    have hle:=foundN_le c.gates i
    obtain⟨bg,off,w,wb,wc,rfl,hw,hrd,hwe⟩:=hg.rd hii
    subst hw
    have hsH:Sub H Hi:=((sa.trans sb).trans sc).trans hsi
    conv=>whnf
    refine dec_intro (by omega) ?_
    conv=>whnf
    refine⟨_,hrd Hi emp hsH,?_⟩
    conv=>whnf
    intro b5
    conv=>whnf
    refine if_intro (fun h13=>?_) (fun h13=>?_)
    · conv=>whnf
      rw[wrap_id (n:=(foundN (c.gates.take i):Int)+1) (by omega) (by omega)]
      refine⟨(i+1,Hi),⟨by dsimp only;omega,hsi⟩,by dsimp only;omega,?_⟩
      refine⟨rfl,rfl,?_⟩
      dsimp only
      rw[foundN_snoc hii,show isM c.gates[i]=true by unfold isM;rw[h13]<;>rfl,if_pos rfl]
      conv=>whnf
      repeat (refine⟨rfl,?_⟩;conv=>whnf)
      refine⟨by show En.v (.int .i64 (IntKind.i64.wrap (i+1)))=_;rw[wrap_id (by omega) (by omega)]<;>rfl,?_⟩
      conv=>whnf
      repeat (refine⟨rfl,?_⟩;conv=>whnf)
      exact trivial
    conv=>whnf
    refine if_intro (fun h14=>?_) (fun h14=>?_)
    · conv=>whnf
      rw[wrap_id (n:=(foundN (c.gates.take i):Int)+1) (by omega) (by omega)]
      refine⟨(i+1,Hi),⟨by dsimp only;omega,hsi⟩,by dsimp only;omega,?_⟩
      refine⟨rfl,rfl,?_⟩
      dsimp only
      rw[foundN_snoc hii,show isM c.gates[i]=true by unfold isM;rw[h14,Bool.or_true],if_pos rfl]
      conv=>whnf
      repeat (refine⟨rfl,?_⟩;conv=>whnf)
      refine⟨by show En.v (.int .i64 (IntKind.i64.wrap (i+1)))=_;rw[wrap_id (by omega) (by omega)]<;>rfl,?_⟩
      conv=>whnf
      repeat (refine⟨rfl,?_⟩;conv=>whnf)
      exact trivial
    conv=>whnf
    refine⟨(i+1,Hi),⟨by dsimp only;omega,hsi⟩,by dsimp only;omega,?_⟩
    refine⟨rfl,rfl,?_⟩
    dsimp only
    rw[foundN_snoc hii,show isM c.gates[i]=false by unfold isM;rw[h13,h14]<;>rfl,if_neg (by simp),Nat.add_zero]
    conv=>whnf
    repeat (refine⟨rfl,?_⟩;conv=>whnf)
    refine⟨by show En.v (.int .i64 (IntKind.i64.wrap (i+1)))=_;rw[wrap_id (by omega) (by omega)]<;>rfl,?_⟩
    conv=>whnf
    repeat (refine⟨rfl,?_⟩;conv=>whnf)
    exact trivial
  have hii:i=c.gates.length:=by
    have:=of_decide_eq_false hci
    omega
  subst hii
  dsimp only
  rw[List.take_length]
  have hmany:foundN c.gates > 8∨c.bits > 4→runM c m=([],2):=fun h=>by
    have he:runErr c m=2:=by unfold runErr;rw[if_neg (by rw[ha];simp),if_neg (by rw[hb];simp),if_neg (by rw[hd];simp),if_pos h]
    unfold runM
    rw[he,if_pos (by simp)]
  conv=>whnf
  refine if_intro (fun h8=>?_) (fun h8=>?_)
  · conv=>whnf
    rw[hmany (.inl (by have:=of_decide_eq_true h8;omega))]
    exact OutL.bad
  have h8:=of_decide_eq_false h8
  conv=>whnf
  refine if_intro (fun h4=>?_) (fun h4=>?_)
  · conv=>whnf
    rw[hmany (.inr (by have:=of_decide_eq_true h4;omega))]
    exact OutL.bad
  have h4:=of_decide_eq_false h4
  conv=>whnf
  intro mb hmb hOmb
  conv=>whnf
  intro rb hrb hOrb
  conv=>whnf
  obtain⟨n,hden⟩:=den_of hb
  have hsz:c.wires=(n:Int):=by rw[← hd];exact hden.size
  have hoff:¬ (offF c.wires 1 12 || offF c.bits 0 8)=true:=fun h=>by
    have:circErr c=3:=if_pos h
    rw[ha] at this
    cases this
  obtain⟨_,hbits⟩:=circ_in hoff
  obtain⟨q,hcq⟩:∃ q:Nat,c.bits=q:=⟨c.bits.toNat,by omega⟩
  have hq:q < 5:=by omega
  have hn:=hden.le
  have hQ:2 ^ q≤16:=Nat.pow_le_pow_right (by decide) (by omega:q≤4)
  have hQ0:0 < 2 ^ q:=Nat.pow_pos (by decide)
  have hN:=pow_le16 hn
  rw[hsz,hcq]
  conv=>whnf
  rw[shl_nat (by omega)]
  have hsH:Sub H Hi:=((sa.trans sb).trans sc).trans hsi
  have hmr:rb ≠ mb:=fun e=>by subst e;rw[ins_same] at hOrb;cases hOrb
  refine W_loop (pol:=polRn) Γok (Nat × PH × List Value) (fun i=>i.1≤2 ^ q∧Sub Hi i.2.1∧MapN Hi i.2.1 i.2.2 (List.replicate i.1 (zeroM m.length))) (fun i=>2 ^ q - i.1) (fun i=>[(67,.v (.int .i64 i.1))]) (fun _=>[]) (fun i=>i.2.1) (fun i=>ins (ins emp mb (.map (entsM i.2.2) i.2.2.length)) rb (.cells ⟨[.int .i64 n,.int .i64 q,.slice gb c.gates.length gc,.map (some mb),.nilFunc]⟩ 108 (0,0))) ⟨(0,Hi,[]),⟨by simp,Sub.refl _,MapN.nil _ _⟩,rfl,rfl,?_⟩ ?_
  · conv=>whnf
    repeat (refine⟨rfl,?_⟩;conv=>whnf)
    exact trivial
  rintro ⟨i,H2,us1⟩ ⟨g1,g2,g3⟩
  dsimp only at g1 g2 g3
  conv=>whnf
  refine if_intro (fun hci=>?_) (fun hci=>?_)
  · have hii:i < 2 ^ q:=by
      have:=of_decide_eq_true hci
      omega
    conv=>whnf
    refine W_lend (parts_run hmr) fun hd=>?_
    refine W_draw (pol:=polRn) Γok mixes [(0,.pend),(1,.pend),(2,.pend),(3,.pend),(4,.pend),(5,.pendO),(6,.pendO),(7,.lock),(8,.lock)] 137 (by kernel_rfl) rfl ?_
    conv=>whnf
    refine⟨[.map (some mb)],⟨rfl,rfl,_,_,_,.inl (un_right hd (ins_same _ _ _)),rfl⟩,?_⟩
    conv=>whnf
    refine (Cl.newM (by omega) (by omega) ((e66 m.length (by omega) _).mono fun _ _ _ _ h=>h.2)).use fun u Hx sx hr=>?_
    obtain⟨_,hnew⟩:=hr
    conv=>whnf
    have hui:us1.length=i:=by rw[g3.1];simp
    subst hui
    refine newM (ins_same _ _ _) ?_
    conv=>whnf
    refine⟨fun n o hn=>sx n o (un_right hd hn),fun q b3 hq hp=>?_,fun H3 e1 e2=>?_⟩
    · cases Option.some.inj (List.mem_singleton.1 (List.mem_of_getElem? hq))
      cases hp
    obtain⟨s3,s4⟩:=lent_sub hd sx e1
    conv=>whnf
    refine⟨(us1.length+1,H3,us1++[u]),⟨hii,g2.trans s3,?_⟩,by dsimp only;omega,?_⟩
    · dsimp only
      rw[List.replicate_succ']
      exact g3.snoc g2 s3 (hnew.re s4)
    refine⟨rfl,(un_run hmr).symm,?_⟩
    conv=>whnf
    repeat (refine⟨rfl,?_⟩;conv=>whnf)
    refine⟨by show En.v (.int .i64 (IntKind.i64.wrap (us1.length+1)))=_;rw[wrap_id (by omega) (by omega)]<;>rfl,?_⟩
    conv=>whnf
    repeat (refine⟨rfl,?_⟩;conv=>whnf)
    exact trivial
  have hii:i=2 ^ q:=by
    have:=of_decide_eq_false hci
    omega
  subst hii
  dsimp only
  conv=>whnf
  refine W_lend (parts_run hmr) fun hd=>?_
  refine W_draw (pol:=polRn) Γok mixes [(0,.pend),(1,.pend),(2,.pend),(3,.pend),(4,.pendO),(5,.lock),(6,.pendO),(7,.pendO),(8,.pend),(9,.lock)] 137 (by kernel_rfl) rfl ?_
  conv=>whnf
  refine⟨[.map (some mb)],⟨rfl,rfl,_,_,_,.inl (un_right hd (ins_same _ _ _)),rfl⟩,?_⟩
  conv=>whnf
  refine (Cl.newO (c28o m hm _ _ ((hu.up (hsH.trans g2)).up (sub_un _ _)))).use fun r Hx sx hr=>?_
  obtain⟨_,u0,rfl,hu0⟩:=hr
  conv=>whnf
  have hr0:=right_of hden.chk
  have hle0:(LeastMF m).1.length=m.length:=(least_right hden.chk hden.len hden.wid).2.2.1.trans hden.len.symm
  have hu0:=hu0.resolve_left fun h=>by
    rw[h.1] at hle0
    have:=hr0.pos
    simp at hle0
    omega
  refine putM (us:=us1) (clk:=us1.length) (k:=0) (ins_same _ _ _) (by rw[g3.1];simpa using hQ0) ?_
  conv=>whnf
  refine⟨fun n o hn=>sx n o (un_right hd hn),fun q b3 hq hp=>?_,fun H3 e1 e2=>?_⟩
  · cases Option.some.inj (List.mem_singleton.1 (List.mem_of_getElem? hq))
    cases hp
  obtain⟨s3,s4⟩:=lent_sub hd sx e1
  have g4:=g3.set (b:=0) g2 s3 (hu0.re s4)
  rw[start_set] at g4
  have g2':=g2.trans s3
  obtain⟨st1,st2⟩:=start_right (q:=q) hden.chk hden.len hden.wid
  have hun:∀ n,un (ins emp rb (.cells ⟨[.int .i64 n,.int .i64 q,.slice gb c.gates.length gc,.map (some mb),.nilFunc]⟩ 108 (0,0))) (ins (ins emp mb (.map (entsM us1) us1.length)) mb (.map (entsM (us1.set 0 u0)) us1.length))=ins (ins emp mb (.map (entsM (us1.set 0 u0)) (us1.set 0 u0).length)) rb (.cells ⟨[.int .i64 n,.int .i64 q,.slice gb c.gates.length gc,.map (some mb),.nilFunc]⟩ 108 (0,0)):=fun n=>by
    rw[un_run hmr,List.length_set]
  rw[hun n]
  have hrun:runM c m=runG n c.gates (startL m q):=by
    have he:runErr c m=0:=by unfold runErr;rw[if_neg (by rw[ha];simp),if_neg (by rw[hb];simp),if_neg (by rw[hden.size,hsz];simp),if_neg (by omega)]
    unfold runM
    rw[he,if_neg (by simp),hsz,hcq,Int.toNat_natCast]
  have hgates:=circ_gates ha
  rw[hsz,hcq] at hgates
  conv=>whnf
  refine W_loop (pol:=polRn) Γok (Nat × PH × PH × Nat × Value × List Value × List Mx) (fun i=>i.1≤c.gates.length∧Sub Hi i.2.1∧MapN Hi i.2.1 i.2.2.2.2.2.1 i.2.2.2.2.2.2∧i.2.2.1 rb=some (.cells ⟨[.int .i64 n,.int .i64 q,.slice gb c.gates.length gc,.map (some i.2.2.2.1),i.2.2.2.2.1]⟩ 108 (0,0))∧i.2.2.1 i.2.2.2.1=some (.map (entsM i.2.2.2.2.2.1) i.2.2.2.2.2.1.length)∧i.2.2.2.2.2.2.length=2 ^ q∧AllR (2 ^ n) i.2.2.2.2.2.2∧runG n (c.gates.drop i.1) i.2.2.2.2.2.2=runM c m) (fun i=>c.gates.length - i.1) (fun i=>[(91,.v (.int .i64 i.1))]) (fun _=>[]) (fun i=>i.2.1) (fun i=>i.2.2.1) ⟨(0,H3,_,mb,_,us1.set 0 u0,startL m q),⟨by simp,g2',g4,ins_same _ _ _,?_,st1,st2,?_⟩,rfl,rfl,?_⟩ ?_
  · exact (ins_ne _ _ (Ne.symm hmr)).trans (ins_same _ _ _)
  · rw[hrun]<;>rfl
  · conv=>whnf
    repeat (refine⟨rfl,?_⟩;conv=>whnf)
    exact trivial
  rintro ⟨i,H4,O4,mb4,f4,us4,l4⟩ ⟨p1,p2,p3,p4,p5,p6,p7,p8⟩
  dsimp only at p1 p2 p3 p4 p5 p6 p7 p8
  conv=>whnf
  refine if_intro (fun hci=>?_) (fun hci=>?_)
  · have hii:i < c.gates.length:=by
      have:=of_decide_eq_true hci
      omega
    have hsH4:Sub H H4:=hsH.trans p2
    obtain⟨bg,off,w,wb,wc,rfl,hw,hrd,hwe⟩:=hg.rd hii
    have hgate:=hgates _ (List.getElem_mem hii)
    obtain⟨_,f13,f14,fg⟩:=gate_facts hn hq hgate
    have hstep:runG n (c.gates.drop i) l4=if (stepL c.gates[i] n l4).2 ≠ 0 then ([],(stepL c.gates[i] n l4).2) else runG n (c.gates.drop (i+1)) (stepL c.gates[i] n l4).1:=by
      rw[List.drop_eq_getElem_cons hii]
      rfl
    rw[p8] at hstep
    subst hw
    conv=>whnf
    refine dec_intro (by omega) ?_
    conv=>whnf
    refine⟨_,hrd H4 O4 hsH4,?_⟩
    conv=>whnf
    intro b7
    conv=>whnf
    have hmr4:mb4 ≠ rb:=fun e=>by rw[e,p4] at p5;cases p5
    refine⟨_,_,p4,(by show 5≤5;decide),?_⟩
    conv=>whnf
    refine if_intro (fun h13=>?_) (fun h13=>?_)
    case' _=>
      have h13:c.gates[i].kind=13:=by simpa using h13
      obtain⟨_,⟨b,hgb,hbq⟩,k,hgw,hkn⟩:=f13 h13
      have hsl:stepL c.gates[i] n l4=measL l4 k b:=by
        unfold stepL
        rw[if_pos h13,hgw,hgb]
        rfl
      conv=>whnf
      refine⟨_,_,ins_same _ _ _,(by show 5≤5;decide),?_⟩
      conv=>whnf
      refine W_draw (pol:=polRn) Γok mixes [(0,.pendO),(1,.pendO),(2,.pendO),(3,.pendO),(4,.pendO),(5,.lock),(6,.pendO)] 137 (by kernel_rfl) rfl ?_
      conv=>whnf
      refine⟨_,⟨rfl,rfl,_,_,_,.inr (ins_same _ _ _),rfl⟩,?_⟩
      conv=>whnf
      rw[ins_ins]
      refine (e104 Hi H4 _ p2 rb mb4 _ _ us4 l4 n q k b hn hq hkn hbq c.gates[i] hgw hgb _ (hwe.up hsH4) p6 p7 (ins_same _ _ _) ((ins_ne _ _ hmr4).trans p5) p3).mono fun r H5 O5 s5 hr=>?_
      obtain⟨rfl,hr⟩:=hr
      replace hr:(stepL c.gates[i] n l4).2=0→∃ f5 mb' us',O5 rb=some (.cells ⟨[.int .i64 n,.int .i64 q,.slice (some ⟨bg,off,none⟩) c.gates.length gc,.map (some mb'),f5]⟩ 108 (0,0))∧O5 mb'=some (.map (entsM us') us'.length)∧MapN Hi H5 us' (stepL c.gates[i] n l4).1:=fun h=>by
        rw[hsl] at h ⊢
        obtain⟨mb',us',x1,x2,x3⟩:=hr h
        exact⟨_,mb',us',x1,x2,x3⟩
      rw[← hsl]
    rotate_left
    case' _=>
      have h13:¬ c.gates[i].kind=13:=by simpa using h13
      have hsl:stepL c.gates[i] n l4=gateL l4 c.gates[i] n:=if_neg h13
      conv=>whnf
      refine W_draw (pol:=polRn) Γok mixes [(0,.pendO),(1,.pendO),(2,.pendO),(3,.pendO),(4,.pendO),(5,.lock),(6,.pendO)] 137 (by kernel_rfl) rfl ?_
      conv=>whnf
      refine⟨_,⟨rfl,rfl,_,_,_,.inr (ins_same _ _ _),rfl⟩,?_⟩
      conv=>whnf
      refine (e103 Hi H4 _ p2 rb mb4 _ _ us4 l4 n q hn hq c.gates[i] hgate h13 _ (hwe.up hsH4) p6 p7 (ins_same _ _ _) ((ins_ne _ _ hmr4).trans p5) p3).mono fun r H5 O5 s5 hr=>?_
      obtain⟨rfl,hr⟩:=hr
      replace hr:(stepL c.gates[i] n l4).2=0→∃ f5 mb' us',O5 rb=some (.cells ⟨[.int .i64 n,.int .i64 q,.slice (some ⟨bg,off,none⟩) c.gates.length gc,.map (some mb'),f5]⟩ 108 (0,0))∧O5 mb'=some (.map (entsM us') us'.length)∧MapN Hi H5 us' (stepL c.gates[i] n l4).1:=fun h=>by
        rw[hsl] at h ⊢
        obtain⟨mb',us',x1,x2,x3⟩:=hr h
        exact⟨_,mb',us',x1,x2,x3⟩
      rw[← hsl]
    all_goals
      conv=>whnf
      refine if_intro (fun he=>?_) (fun he=>?_)
      · rw[hstep,if_pos (by simpa using he)]
        conv=>whnf
        exact OutL.bad
      have he:(stepL c.gates[i] n l4).2=0:=by simpa using he
      rw[if_neg (by rw[he];simp)] at hstep
      obtain⟨f5,mb5,us5,x1,x2,x3⟩:=hr he
      obtain⟨y1,y2⟩:=step_right hn hq hgate p6 p7 he
      conv=>whnf
      refine⟨(i+1,H5,O5,mb5,f5,us5,(stepL c.gates[i] n l4).1),⟨hii,p2.trans s5,x3,x1,x2,y1,y2,hstep.symm⟩,by dsimp only;omega,?_⟩
      refine⟨rfl,rfl,?_⟩
      conv=>whnf
      repeat (refine⟨rfl,?_⟩;conv=>whnf)
      refine⟨by show En.v (.int .i64 (IntKind.i64.wrap (i+1)))=_;rw[wrap_id (by omega) (by omega)]<;>rfl,?_⟩
      conv=>whnf
      repeat (refine⟨rfl,?_⟩;conv=>whnf)
      exact trivial
  have hii:i=c.gates.length:=by
    have:=of_decide_eq_false hci
    omega
  subst hii
  rw[List.drop_length] at p8
  have hfin:runM c m=(l4,0):=p8.symm
  rw[hfin]
  dsimp only
  conv=>whnf
  rw[shl_nat (by omega)]
  conv=>whnf
  refine dec_intro (Int.le_refl _) ?_
  conv=>whnf
  refine dec_intro (by omega) ?_
  conv=>whnf
  refine dec_intro (by omega) ?_
  conv=>whnf
  intro hb hhb hOhb
  conv=>whnf
  have hr1:rb ≠ hb:=fun e=>by subst e;rw[p4] at hOhb;cases hOhb
  have hm1:mb4 ≠ hb:=fun e=>by subst e;rw[p5] at hOhb;cases hOhb
  refine⟨_,⟨rfl,rfl,_,_,_,.inr ((ins_ne _ _ hr1).trans p4),rfl⟩,?_⟩
  conv=>whnf
  refine rangeM ((ins_ne _ _ hm1).trans p5) fun it hit hOit=>?_
  have hi1:it ≠ hb:=fun e=>by rw[e,ins_same] at hOit;cases hOit
  have hi2:it ≠ mb4:=fun e=>by rw[e,ins_ne _ _ hm1,p5] at hOit;cases hOit
  have hul:us4.length=2 ^ q:=p3.1.trans p6
  conv=>whnf
  refine W_loop (pol:=polRn) Γok (Array Nat × List Value × PH) (fun i=>i.2.1.length=2 ^ q∧i.2.2 mb4=some (.map (entsM us4) us4.length)∧i.2.2 it=some (.mapIter (some mb4) us4.length i.1 us4.length)∧i.2.2 hb=some (.cells ⟨i.2.1⟩ 23 (0,0))∧∀ k,i.1.contains k=true→i.2.1[k]?=us4[k]?) (fun i=>(leftOf (entsM us4) i.1).size) (fun _=>[]) (fun _=>[]) (fun _=>H4) (fun i=>i.2.2) ⟨(#[],List.replicate (2 ^ q) (.slice none 0 0),_),⟨by simp,?_,ins_same _ _ _,?_,fun k h=>by simp at h⟩,rfl,rfl,?_⟩ ?_
  · exact (ins_ne _ _ (Ne.symm hi2)).trans ((ins_ne _ _ hm1).trans p5)
  · refine (ins_ne _ _ (Ne.symm hi1)).trans ((ins_same _ _ _).trans ?_)
    rw[Int.toNat_natCast]
    simp
  · conv=>whnf
    repeat (refine⟨rfl,?_⟩;conv=>whnf)
    exact trivial
  rintro ⟨seen,hs,O6⟩ ⟨z1,z2,z3,z4,z5⟩
  dsimp only at z1 z2 z3 z4 z5
  conv=>whnf
  refine nextM z3 z2 (fun hall=>?_) (fun k hk hless=>?_)
  · conv=>whnf
    have heq:hs=us4:=List.ext_getElem? fun k=>by
      by_cases hk:k < us4.length
      · exact z5 k (hall k hk)
      · rw[List.getElem?_eq_none (by omega),List.getElem?_eq_none (by omega)]
    rw[heq] at z4
    refine .inr ⟨us4,hb,?_,z4,p3.base hsH⟩
    rw[hul]
    rfl
  conv=>whnf
  refine itemM hk (ins_same _ _ _) ((ins_ne _ _ (Ne.symm hi2)).trans z2) ?_
  conv=>whnf
  obtain⟨uk,huk,hmk⟩:=p3.at (b:=k) (by omega)
  obtain⟨kb,kc,ek⟩:=MatH.sl hmk
  have huk':us4[k]=.slice kb (l4[k]'(by omega)).length kc:=by
    rw[List.getElem?_eq_getElem hk] at huk
    exact (Option.some.inj huk).trans ek
  rw[huk']
  refine dec_intro (by rw[Int.toNat_natCast];omega) ?_
  conv=>whnf
  refine⟨_,_,(ins_ne _ _ (Ne.symm hi1)).trans z4,?_,?_⟩
  · simp
    omega
  conv=>whnf
  refine⟨(seen.push k,hs.set k (.slice kb (l4[k]'(by omega)).length kc),ins (ins O6 it (.mapIter (some mb4) us4.length (seen.push k) us4.length)) hb (.cells ⟨hs.set k (.slice kb (l4[k]'(by omega)).length kc)⟩ 23 (0,0))),⟨by simpa using z1,?_,?_,ins_same _ _ _,fun t ht=>?_⟩,hless,?_⟩
  · exact (ins_ne _ _ hm1).trans ((ins_ne _ _ (Ne.symm hi2)).trans z2)
  · exact (ins_ne _ _ hi1).trans (ins_same _ _ _)
  · dsimp only at ht ⊢
    by_cases e:k=t
    · subst e
      rw[List.getElem?_set_self (by omega),List.getElem?_eq_getElem hk,huk']
    · rw[List.getElem?_set_ne e]
      refine z5 t ?_
      rw[contains_push] at ht
      have:(t == k)=false:=beq_eq_false_iff_ne.2 (Ne.symm e)
      rw[this,Bool.or_false] at ht
      exact ht
  refine⟨rfl,?_,?_⟩
  · dsimp only
    rw[List.set_eq_take_append_cons_drop,if_pos (by omega),Int.toNat_natCast,Nat.zero_add,Nat.mul_one,List.append_assoc]
    rfl
  conv=>whnf
  repeat (refine⟨rfl,?_⟩;conv=>whnf)
  exact trivial
end Go.Proofs.YtodmckckapmmoaaGreatDoor

namespace Go.Proofs.YtodmckckapmmoaaGreatDoor
open Go.Proofs.YtodmckckapmmoaaGreatDoor.X Go.Proofs.YtodmckckapmmoaaGreatDoor.X.PH
set_option maxRecDepth 100000
def AllD (n : Nat) (l:List Mx):Prop:=∀ m∈l,Den m n
theorem AllD.r {n : Nat} {l:List Mx} (h:AllD n l):AllR (2 ^ n) l:=fun m hm=>⟨(h m hm).chk,(h m hm).len,(h m hm).wid⟩
theorem AllD.at {n : Nat} {l:List Mx} (h:AllD n l) {i:Nat} (hi:i < l.length):Den (l.getD i []) n:=by
  rw[List.getD_eq_getElem?_getD,List.getElem?_eq_getElem hi]
  exact h _ (List.getElem_mem hi)
end Go.Proofs.YtodmckckapmmoaaGreatDoor

namespace Go.Proofs.YtodmckckapmmoaaGreatDoor
open Go.Proofs.YtodmckckapmmoaaGreatDoor.X Go.Proofs.YtodmckckapmmoaaGreatDoor.X.PH
set_option maxRecDepth 100000
def MatV (H : PH) (us:List Value) (l:List Mx):Prop:=us.length=l.length∧∀ (i:Nat) m u,l[i]?=some m→us[i]?=some u→MatH H u m
theorem MatV.up {H H' : PH} {us:List Value} {l:List Mx} (h:MatV H us l) (hs:Sub H H'):MatV H' us l:=⟨h.1,fun i m u hm hu=>(h.2 i m u hm hu).up hs⟩
theorem MatV.snoc {H : PH} {us:List Value} {l:List Mx} {u:Value} {m:Mx} (h:MatV H us l) (hu:MatH H u m):MatV H (us++[u]) (l++[m]):=by
  refine⟨by simp[h.1],fun i m' u' hm hu'=>?_⟩
  by_cases hi:i < l.length
  · rw[List.getElem?_append_left hi] at hm
    rw[List.getElem?_append_left (by rw[h.1];exact hi)] at hu'
    exact h.2 i m' u' hm hu'
  · have hi2:i < (l++[m]).length:=(List.getElem?_eq_some_iff.1 hm).1
    rw[List.length_append] at hi2
    have e:i=l.length:=by simp at hi2;omega
    subst e
    rw[List.getElem?_append_right (by omega)] at hm
    rw[List.getElem?_append_right (by rw[h.1];exact Nat.le_refl _)] at hu'
    rw[h.1] at hu'
    simp at hm hu'
    subst hm hu'
    exact hu
theorem MatV.mats {H : PH} {us:List Value} {l:List Mx} {b:Nat} {t:TypeId} (h:MatV H us l) (hb:H b=some (.cells ⟨us⟩ t (0,0))):MatsH H (.slice (some ⟨b,0,none⟩) us.length us.length) l:=by
  refine⟨us,h.1,⟨_,_,by rw[h.1],.inr ⟨b,0,_,_,_,rfl,hb,?_⟩⟩,h.2⟩
  simp
theorem getD_at {l : List Mx} {i:Nat} (h:i < l.length):l[i]=l.getD i []:=by rw[List.getD_eq_getElem?_getD,List.getElem?_eq_getElem h];rfl
def OutMs (H : PH) (r:Value) (x:List Mx × Int):Prop:=∃ u,r=.tuple #[u,.int .i64 x.2]∧MatsH H u x.1
def OutRaw (H M : PH) (r:Value) (x:List Mx × Int):Prop:=(x.1=[]∧r=.tuple #[.slice none 0 0,.int .i64 x.2])∨∃ us hb,r=.tuple #[.slice (some ⟨hb,0,none⟩) us.length us.length,.int .i64 x.2]∧M hb=some (.cells ⟨us⟩ 23 (0,0))∧MatV H us x.1
theorem OutRaw.bad {H M : PH} {e:Int}:OutRaw H M (.tuple #[.slice none 0 0,.int .i64 e]) ([],e):=.inl ⟨rfl,rfl⟩
theorem OutRaw.out {H M : PH} {r:Value} {x:List Mx × Int} (h:OutRaw H M r x) (hd:Dis H M):OutMs (un H M) r x:=by
  rcases h with⟨h1,rfl⟩ | ⟨us,hb,rfl,h2,h3⟩
  · refine⟨_,rfl,?_⟩
    rw[h1]
    exact⟨[],rfl,⟨_,_,rfl,.inl ⟨rfl,rfl⟩⟩,fun i m u h=>by simp at h⟩
  · exact⟨_,rfl,(h3.up (sub_un _ _)).mats (un_right hd h2)⟩
end Go.Proofs.YtodmckckapmmoaaGreatDoor

namespace Go.Proofs.YtodmckckapmmoaaGreatDoor
open Go.Proofs.YtodmckckapmmoaaGreatDoor.X Go.Proofs.YtodmckckapmmoaaGreatDoor.X.PH
set_option maxRecDepth 100000
def AllF (l : List Mx):Prop:=∀ m∈l,LeastMF m=(m,0)
theorem AllF.at {l : List Mx} (h:AllF l) {i:Nat} (hi:i < l.length):LeastMF (l.getD i [])=(l.getD i [],0):=by
  rw[List.getD_eq_getElem?_getD,List.getElem?_eq_getElem hi]
  exact h _ (List.getElem_mem hi)
end Go.Proofs.YtodmckckapmmoaaGreatDoor

namespace Go.Proofs.YtodmckckapmmoaaGreatDoor
open Go.Proofs.YtodmckckapmmoaaGreatDoor.X Go.Proofs.YtodmckckapmmoaaGreatDoor.X.PH
set_option maxRecDepth 100000
theorem OutMs.bad {H : PH} {e:Int}:OutMs H (.tuple #[.slice none 0 0,.int .i64 e]) ([],e):=⟨_,rfl,[],rfl,⟨_,_,rfl,.inl ⟨rfl,rfl⟩⟩,fun i m u h=>by simp at h⟩
theorem MatsH.val {H : PH} {v:Value} {l:List Mx} (h:MatsH H v l):∃ b c,v=.slice b l.length c:=by
  obtain⟨_,_,⟨b,c,h,_⟩,_⟩:=h
  exact⟨b,c,h⟩
end Go.Proofs.YtodmckckapmmoaaGreatDoor

namespace Go.Proofs.YtodmckckapmmoaaGreatDoor
open Go.Proofs.YtodmckckapmmoaaGreatDoor.X Go.Proofs.YtodmckckapmmoaaGreatDoor.X.PH
set_option maxRecDepth 100000
theorem MapN.v {H0 H : PH} {us:List Value} {l:List Mx} (h:MapN H0 H us l):MatV H us l:=by
  refine⟨h.1,fun i m u hm hu=>?_⟩
  obtain⟨hi,e⟩:=List.getElem?_eq_some_iff.1 hm
  obtain⟨u',hu',hm'⟩:=h.at hi
  rw[hu] at hu'
  cases hu'
  rw[← e]
  exact hm'
def OutMc (H : PH) (r:Value) (x:List Mx × Int):Prop:=∃ b c,r=.tuple #[.slice b x.1.length c,.int .i64 x.2]∧x.1.length≤c∧MatsH H (.slice b x.1.length c) x.1
theorem OutL.out {H0 H M : PH} {r:Value} {x:List Mx × Int} (h:OutL H0 H M r x) (hd:Dis H M):OutMc (un H M) r x:=by
  rcases h with⟨h1,rfl⟩ | ⟨us,hb,rfl,h2,h3⟩
  · refine⟨none,0,?_⟩
    rw[h1]
    exact⟨rfl,Nat.le_refl _,[],rfl,⟨_,_,rfl,.inl ⟨rfl,rfl⟩⟩,fun i m u h=>by simp at h⟩
  · have h4:=(h3.v.up (sub_un _ _)).mats (un_right hd h2)
    rw[h3.1] at h4 ⊢
    exact⟨_,_,rfl,Nat.le_refl _,h4⟩
theorem e41p (c : Ct) (m:Mx) (hc:c.fit) (hm:m.length < 1000000) (H:PH) (v u:Value) (hv:CircH H v c) (hu:MatH H u m):Cl Tryz.prog 41 [v,u] H emp fun r H' _=>OutMc H' r (runM c m):=
  (e41 c m hc hm H v u hv hu).repart fun r H' M' _ hd h=>⟨_,_,.all hd,h.out hd⟩
theorem MatsH.tail {H : PH} {b0 o0 lc:Nat} {l:List Mx} (h:MatsH H (.slice (some ⟨b0,o0,none⟩) l.length lc) l) (hc:l.length≤lc) (h0:0 < l.length) :
    MatsH H (.slice (if lc=Int.toNat 1 then some ⟨b0,o0,none⟩ else Option.map (fun x:Addr=>x.add (Int.toNat 1*1)) (some (⟨b0,o0,none⟩:Addr))) ((l.length:Int).toNat - Int.toNat 1) (lc - Int.toNat 1)) l.tail:=by
  obtain⟨vs,h1,⟨_,_,e,h2⟩,h3⟩:=h
  cases e
  have hn:(l.length:Int).toNat - Int.toNat 1=l.tail.length:=by simp
  rw[hn]
  refine⟨vs.tail,by simp[h1],⟨_,_,rfl,?_⟩,fun i m u hm hu=>h3 (i+1) m u (by simpa using hm) (by simpa using hu)⟩
  by_cases hlc:lc=Int.toNat 1
  · have hl1:l.length=1:=by
      have:Int.toNat 1=1:=rfl
      omega
    refine .inl ⟨by simp[hl1],?_⟩
    match vs,h1 with
    | [],_=>rfl
    | [_],_=>rfl
    | _::_::_,h1=>simp at h1;omega
  · rw[if_neg hlc]
    obtain⟨h2,_⟩ | ⟨b,off,c,t,fr,eb,hH,ht⟩:=h2
    · omega
    cases eb
    refine .inr ⟨b0,o0+1,c,t,fr,rfl,hH,?_⟩
    match vs,h1,ht with
    | [],h1,_=>simp at h1;omega
    | x::vs,_,ht=>
      rw[← List.drop_drop]
      cases hd:c.toList.drop o0 with
      | nil=>rw[hd] at ht;simp at ht
      | cons y d=>
        rw[hd] at ht
        simp at ht
        exact ht.2
end Go.Proofs.YtodmckckapmmoaaGreatDoor

namespace Go.Proofs.YtodmckckapmmoaaGreatDoor
open Go.Proofs.YtodmckckapmmoaaGreatDoor.X Go.Proofs.YtodmckckapmmoaaGreatDoor.X.PH
set_option maxRecDepth 100000
theorem e51 (kind : Int) (w:Value) (ws:List Int) (H:PH) (hw:IntsC H w ws):Cl Tryz.prog 51 [.int .i64 kind,w] H emp fun r _ _=>r=gv ⟨kind,ws,0,0⟩ w:=by
  obtain⟨wb,wc,rfl,_⟩:=hw
  refine Cl_of (pol:=polL) Γok Tryz.func51 (by kernel_rfl) rfl ?_
  conv=>whnf
  intro b4
  conv=>whnf
  rfl
theorem e18 (l m : Mx) (H:PH) (u v:Value) (hu:MatH H u l) (hv:MatH H v m) (hlen:l.length < 1000000) (hrow:∀ r∈l,r.length < 1000000):Cl Tryz.prog 18 [u,v] H emp fun r _ _=>r=.bool (eqM l m):=by
  obtain⟨ub,uc,rfl⟩:=MatH.sl hu
  obtain⟨vb,vc,rfl⟩:=MatH.sl hv
  refine Cl_of (pol:=polL) Γok Tryz.func18 (by kernel_rfl) rfl ?_
  conv=>whnf
  refine (c52 l m _ _ _ hu hv (by omega) (fun r hr=>by have:=hrow r hr;omega)).val fun Ha sa=>?_
  conv=>whnf
theorem e55 (m : Mx) (H:PH) (u:Value) (hu:MatH H u m) (hlen:m.length < 9223372036854775808):Cl Tryz.prog 55 [u] H emp fun r _ _=>r=.bool (greatF m 8):=by
  obtain⟨ub,uc,rfl⟩:=MatH.sl hu
  refine Cl_of (pol:=polL) Γok Tryz.func55 (by kernel_rfl) rfl ?_
  conv=>whnf
  refine (c26 m 8 _ _ hu (by omega)).val fun Ha sa=>?_
  conv=>whnf
theorem e8 (l : List Mx) (H:PH) (v:Value) (hv:MatsH H v l) (hl:l.length < 1000000) (hm:∀ m∈l,m.length < 9223372036854775808):Cl Tryz.prog 8 [v] H emp fun r _ _=>r=.bool (l.any fun m=>greatF m 8):=by
  obtain⟨vs,h1,h2,h3⟩:=hv
  obtain⟨b,c,rfl,_⟩:=id h2
  refine Cl_of (pol:=polL) Γok Tryz.func8 (by kernel_rfl) rfl ?_
  conv=>whnf
  rw[← h1] at h2 ⊢
  refine (c66 vs (fun i=>greatF (l.getD i []) 8) (by omega) _ _ _ h2 fun i x hx=>?_).val fun Ha sa=>?_
  · have hi:i < vs.length:=(List.getElem?_eq_some_iff.1 hx).1
    have hm':=h3 i (l[i]'(by omega)) x (List.getElem?_eq_getElem (by omega)) hx
    have hml:=hm _ (List.getElem_mem (show i < l.length by omega))
    rw[← getD_at (by omega)]
    exact⟨_,_,_,rfl,fun H' hs=>e55 _ _ _ (hm'.up hs) hml⟩
  conv=>whnf
  have e:(List.range vs.length).any (fun i=>greatF (l.getD i []) 8)=l.any fun m=>greatF m 8:=by
    rw[Bool.eq_iff_iff,List.any_eq_true,List.any_eq_true]
    constructor
    · rintro ⟨i,hi,h⟩
      have hi:i < l.length:=by have:=List.mem_range.1 hi;omega
      rw[← getD_at hi] at h
      exact⟨_,List.getElem_mem hi,h⟩
    · rintro ⟨m,hm,h⟩
      obtain⟨i,hi,rfl⟩:=List.mem_iff_getElem.1 hm
      exact⟨i,List.mem_range.2 (by omega),by rw[← getD_at hi];exact h⟩
  rw[e]
theorem e50 (l : Vec) (hl:l.length < 1000) (H:PH) (v:Value) (hv:NumH H v l):Cl Tryz.prog 50 [v] H emp fun r _ M'=>OwnQ M' r (diagR (fun p=>l.getD p (P4.zero,0)) l.length l.length):=by
  obtain⟨base,cap,rfl,_⟩:=id hv
  refine Cl_of (pol:=polL) Γok Tryz.func50 (by kernel_rfl) rfl ?_
  conv=>whnf
  refine dec_intro (Int.le_refl _) ?_
  conv=>whnf
  refine dec_intro (by omega) ?_
  conv=>whnf
  refine dec_intro (by omega) ?_
  conv=>whnf
  intro b0 hb0 _
  conv=>whnf
  obtain⟨s,hs⟩:∃ s,s=l.length:=⟨_,rfl⟩
  rw[← hs] at hl ⊢
  refine W_loop (pol:=polL) Γok (Nat × List Nat × PH) (fun i=>i.1≤s∧HalfM i.2.2 b0 s s i.2.1 (diagR (fun p=>l.getD p (P4.zero,0)) s i.1)) (fun i=>s - i.1) (fun i=>[(11,.v (.int .i64 i.1))]) (fun _=>[]) (fun _=>H) (fun i=>i.2.2) ⟨(0,[],_),⟨by simp,HalfM.start b0 s s emp⟩,rfl,rfl,?_⟩ ?_
  · conv=>whnf
    repeat (refine⟨rfl,?_⟩;conv=>whnf)
    exact trivial
  · rintro ⟨i,bs,O'⟩ ⟨h1,g⟩
    dsimp only at h1 g
    conv=>whnf
    refine if_intro (fun hc=>?_) (fun hc=>?_)
    · have hi:i < s:=by simpa using hc
      have hbl:i=bs.length:=by rw[g.rows.len,diagR_len]
      obtain⟨b',off',rfl,hx⟩:=NumH.at hv (i:=i) (by omega)
      conv=>whnf
      refine dec_intro (by omega) ?_
      conv=>whnf
      refine⟨_,hx H O' (Sub.refl _),?_⟩
      conv=>whnf
      intro b5
      conv=>whnf
      refine dec_intro (Int.le_refl _) ?_
      conv=>whnf
      refine dec_intro (by omega) ?_
      conv=>whnf
      refine dec_intro (by omega) ?_
      conv=>whnf
      intro b hb hO
      conv=>whnf
      refine dec_intro (by omega) ?_
      conv=>whnf
      obtain⟨cs,q1,q2,g2⟩:=g.row hbl hi hO
      refine⟨cs,_,q1,q2,?_⟩
      conv=>whnf
      have hml:i=(diagR (fun p=>l.getD p (P4.zero,0)) s i).length:=(diagR_len _ _ _).symm
      have him:i < (diagR (fun p=>l.getD p (P4.zero,0)) s i++[zeros s]).length:=by rw[List.length_append,diagR_len];simp
      obtain⟨b2,hb2,hne,hl2,hOb,hrd⟩:=g2.at him H
      have hk:i < ((diagR (fun p=>l.getD p (P4.zero,0)) s i++[zeros s])[i]).length:=by rw[hl2];exact hi
      have g3:=g2.setN l[i] hb2 him hk
      have hgd:l[i]=l.getD i (P4.zero,0):=by simp[List.getD_eq_getElem?_getD,List.getElem?_eq_getElem (show i < l.length by omega)]
      have hdm:diagR (fun p=>l.getD p (P4.zero,0)) s i++[(zeros s).set i l[i]]=diagR (fun p=>l.getD p (P4.zero,0)) s (i+1):=by rw[diagR_succ,hgd]
      rw[setM_last _ _ hml,hdm] at g3
      refine W_draw (pol:=polL) Γok mixes [(0,.pendO),(1,.pendO),(2,.pendO),(3,.pendO),(4,.pendO),(5,.pendO),(6,.pendO),(7,.lock)] 31 (by kernel_rfl) rfl ?_
      conv=>whnf
      refine dec_intro (by omega) ?_
      conv=>whnf
      refine⟨_,hrd,?_⟩
      conv=>whnf
      refine dec_intro (by omega) ?_
      conv=>whnf
      refine⟨_,_,hOb,?_,?_⟩
      · show _≤(cellsN _).length
        rw[cellsN_length,hl2]
        simp only[Int.toNat_natCast,List.length_cons,List.length_nil]
        omega
      conv=>whnf
      refine⟨(i+1,bs++[b],_),⟨hi,g3⟩,by dsimp only;omega,?_⟩
      refine⟨rfl,rfl,?_⟩
      conv=>whnf
      repeat (refine⟨rfl,?_⟩;conv=>whnf)
      refine⟨by show En.v (.int .i64 (IntKind.i64.wrap (i+1)))=_;rw[wrap_id (by omega) (by omega)];rfl,?_⟩
      conv=>whnf
      repeat (refine⟨rfl,?_⟩;conv=>whnf)
      exact trivial
    · have hi:i=s:=by
        have h:=of_decide_eq_false hc
        omega
      subst hi
      conv=>whnf
      exact .inr ⟨i,i,by omega,by omega,g.own (diagR_len _ _ _)⟩
end Go.Proofs.YtodmckckapmmoaaGreatDoor

namespace Go.Proofs.YtodmckckapmmoaaGreatDoor
open Go.Proofs.YtodmckckapmmoaaGreatDoor.X Go.Proofs.YtodmckckapmmoaaGreatDoor.X.PH
set_option maxRecDepth 100000
end Go.Proofs.YtodmckckapmmoaaGreatDoor

namespace Go.Proofs.YtodmckckapmmoaaGreatDoor
open Go.Proofs.YtodmckckapmmoaaGreatDoor.X Go.Proofs.YtodmckckapmmoaaGreatDoor.X.PH
set_option maxRecDepth 100000
def nu (a k : Int):P4 × Int:=(⟨a,0,0,0⟩,k)
def mHalf : Mx:=[[nu 1 2,nu 0 0],[nu 0 0,nu 1 2]]
def mFull : Mx:=[[nu 1 2,nu 1 2],[nu 1 2,nu 1 2]]
def mBell : Mx:=[[nu 1 2,nu 0 0,nu 0 0,nu 1 2],[nu 0 0,nu 0 0,nu 0 0,nu 0 0],[nu 0 0,nu 0 0,nu 0 0,nu 0 0],[nu 1 2,nu 0 0,nu 0 0,nu 1 2]]
def mQuart : Mx:=[[nu 1 4,nu 0 0,nu 0 0,nu 0 0],[nu 0 0,nu 1 4,nu 0 0,nu 0 0],[nu 0 0,nu 0 0,nu 1 4,nu 0 0],[nu 0 0,nu 0 0,nu 0 0,nu 1 4]]
def mOne : Mx:=[[nu 1 0,nu 0 0],[nu 0 0,nu 0 0]]
def mTwo : Mx:=[[nu 0 0,nu 0 0],[nu 0 0,nu 1 0]]
def mH0 : Mx:=[[nu 1 2,nu 0 0],[nu 0 0,nu 0 0]]
def mH1 : Mx:=[[nu 0 0,nu 0 0],[nu 0 0,nu 1 2]]
def cMeas : Ct:=⟨1,1,[⟨13,[0],0,0⟩]⟩
theorem x_of : ofV [nu 1 1,nu 1 1]=(mFull,0):=by decide +kernel
theorem x_forget : forgetM mFull 0=(mHalf,0):=by decide +kernel
theorem x_mixed : mixedI 1=(mHalf,0):=by decide +kernel
theorem x_bell : ofV [nu 1 1,nu 0 0,nu 0 0,nu 1 1]=(mBell,0):=by decide +kernel
theorem x_out : outM mBell 1=(mHalf,0):=by decide +kernel
theorem x_purity : purityM mHalf=(nu 1 2,0):=by decide +kernel
theorem x_reset : resetM mHalf 0=(mOne,0):=by decide +kernel
theorem x_quart : mixedI 2=(mQuart,0):=by decide +kernel
theorem x_odds : oddsM mQuart 0=(nu 1 2,0):=by decide +kernel
theorem x_run : runM cMeas mHalf=([mH0,mH1],0):=by decide +kernel
theorem x_diag1 : diagR (fun p=>[nu 1 0,nu 0 0].getD p (P4.zero,0)) 2 2=mOne:=by decide +kernel
theorem x_diag2 : diagR (fun p=>[nu 0 0,nu 1 0].getD p (P4.zero,0)) 2 2=mTwo:=by decide +kernel
theorem x_diag3 : diagR (fun p=>[nu 1 2,nu 1 2].getD p (P4.zero,0)) 2 2=mHalf:=by decide +kernel
theorem x_diag4 : diagR (fun p=>[nu 1 2,nu 0 0].getD p (P4.zero,0)) 2 2=mH0:=by decide +kernel
theorem x_diag5 : diagR (fun p=>[nu 0 0,nu 1 2].getD p (P4.zero,0)) 2 2=mH1:=by decide +kernel
theorem x_mix : mixM mOne mTwo (nu 1 2) (nu 1 2)=(mHalf,0):=by decide +kernel
theorem x_check : denErr [[nu 0 0,nu 1 0],[nu 0 0,nu 0 0]]=7:=by decide +kernel
end Go.Proofs.YtodmckckapmmoaaGreatDoor
