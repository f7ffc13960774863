/- A logic for code of the model, proved sound, and what functions do that the laws on matrices come to; nothing is asked. Part 8. -/
import Derived.Test.YtmhnalikebkhjaaGreatDoorM7
import Derived.LaidMore
import Derived.ProofKit
import Derived.Stop.Joined
import Derived.Test.YtmhnalikebkhjaaGreatDoorRows

set_option linter.unusedVariables false
set_option linter.unusedSimpArgs false
set_option linter.unnecessarySimpa false

namespace Go.Proofs.YtmhnalikebkhjaaGreatDoor
open Go.Proofs.YtmhnalikebkhjaaGreatDoor.X Go.Proofs.YtmhnalikebkhjaaGreatDoor.X.PH
set_option maxRecDepth 100000
theorem VecA.blk {O : PH} {v:Value} {l:Vec} {ob:Option Nat} (h:VecA O v l ob):(ob=none∧v=.slice none 0 0∧l=[])∨∃ b cap c,ob=some b∧v=.slice (some ⟨b,0,none⟩) l.length cap∧O b=some (.cells c 32 (0,0)):=by
  rcases h.2 with⟨a,b,c⟩ | ⟨b,cap,sp,a,e,h,_⟩
  · exact .inl ⟨a,b,by simpa using c⟩
  · exact .inr ⟨b,cap,_,a,by rw[List.length_map] at e;exact e,h⟩
theorem VecA.kept {O O' : PH} {v u:Value} {l k:Vec} {oa ob:Option Nat} (hv:VecA O v l oa) (hu:VecA O u k ob) (hap:Ap oa ob) (hk:∀ n o,O n=some o→(∀ cap,v ≠ .slice (some ⟨n,0,none⟩) (l.map cellsOf).length cap)→O' n=some o):VecA O' u k ob:=by
  refine⟨hu.1,?_⟩
  rcases hu.2 with h | ⟨b,cap,sp,a,e,h,q⟩
  · exact .inl h
  · refine .inr ⟨b,cap,sp,a,e,hk _ _ h fun c ev=>?_,q⟩
    rcases VecA.blk hv with⟨_,e2,_⟩ | ⟨b2,c2,_,a2,e2,_⟩
    · rw[e2] at ev;cases ev
    · rw[e2] at ev
      have eb:b2=b:=by simpa using (Value.slice.inj ev).1
      rw[eb] at a2
      exact hap _ a2 a
set_option maxHeartbeats 2000000 in
theorem d39 (b0 : Nat) (rvs:List Value) (rows:Mx) (obs:List (Option Nat)) (hn:rows.length < 1000000) (H M:PH) (h:RowsA M b0 rvs rows obs):Cl Tryz.prog 39 [.slice (some ⟨b0,0,none⟩) rows.length rows.length] H M fun _ _ _=>True:=by
  have l1:=h.l1
  have l2:=h.l2
  refine Cl_of (pol:=polL) Γok Tryz.func39 (by kernel_rfl) rfl ?_
  conv=>whnf
  refine W_loop (pol:=polL) Γok (Nat × PH) (fun i=>i.1≤rows.length∧i.2 b0=some (.cells ⟨rvs⟩ 25 (0,0))∧∀ (j:Nat) v r ob,i.1≤j→rvs[j]?=some v→rows[j]?=some r→obs[j]?=some ob→VecA i.2 v r ob) (fun i=>rows.length - i.1) (fun i=>[(6,.v (.int .i64 i.1))]) (fun _=>[]) (fun _=>H) (fun i=>i.2) ⟨(0,M),⟨Nat.zero_le _,h.main,fun j v r ob _ a b c=>h.row j v r ob a b c⟩,rfl,rfl,?_⟩ ?_
  · conv=>whnf
    repeat (refine⟨rfl,?_⟩;conv=>whnf)
    exact trivial
  rintro ⟨i,O⟩ ⟨h1,h2,h3⟩
  dsimp only at h1 h2 h3
  conv=>whnf
  refine if_intro (fun hg=>?_) (fun hg=>?_)
  · have hi:i < rows.length:=by
      have:=of_decide_eq_true hg
      omega
    have hv:=h3 i _ _ _ (Nat.le_refl _) (List.getElem?_eq_getElem (by omega)) (List.getElem?_eq_getElem hi) (List.getElem?_eq_getElem (by omega))
    obtain⟨ub,uc,eu⟩:=VecA.sl hv
    conv=>whnf
    refine dec_intro (by omega) ?_
    conv=>whnf
    refine⟨[.slice ub rows[i].length uc],⟨rfl,rfl,_,_,_,.inr h2,?_⟩,?_⟩
    · have ei:(0+((i:Nat):Int).toNat*1)=i:=by omega
      show ((rvs.drop (0+((i:Nat):Int).toNat*1)).take 1)=_
      rw[ei,← eu,List.drop_eq_getElem_cons (by omega)]
      rfl
    conv=>whnf
    rw[eu] at hv
    refine OwnS.clear (VecA.num hv) rfl (by simp[Value.oneCell']) fun O1 hk=>?_
    conv=>whnf
    refine⟨(i+1,O1),⟨hi,?_,fun j v r ob hj a b c=>?_⟩,by dsimp only;omega,?_⟩
    · refine hk _ _ h2 fun cap ev=>?_
      rcases VecA.blk hv with⟨_,e2,_⟩ | ⟨b2,c2,_,a2,e2,_⟩
      · rw[e2] at ev;cases ev
      · rw[e2] at ev
        have eb:b2=b0:=by simpa using (Value.slice.inj ev).1
        rw[eb] at a2
        exact h.ne i _ (List.getElem?_eq_getElem (by omega)) a2
    · exact VecA.kept hv (h3 j v r ob (by omega) a b c) (h.ap i j _ _ (List.getElem?_eq_getElem (by omega)) c (by omega)) hk
    refine⟨rfl,rfl,?_⟩
    conv=>whnf
    repeat (refine⟨rfl,?_⟩;conv=>whnf)
    refine⟨by show En.v (.int .i64 (IntKind.i64.wrap (i+1)))=_;rw[wrap_id (by omega) (by omega)]<;>rfl,?_⟩
    conv=>whnf
    repeat (refine⟨rfl,?_⟩;conv=>whnf)
    exact trivial
  · conv=>whnf
    unfold clearK
    refine⟨some ⟨b0,0,none⟩,rows.length,rows.length,rfl,rfl,by simp[Value.oneCell'],fun _=>trivial,fun a ha hlt=>⟨b0,0,_,_,by cases ha;rfl,h2,by rw[l1];omega,trivial⟩⟩
theorem fit_great {c : Ct} (h:greatC c=false):c.fit:=by
  unfold greatC at h
  rw[Bool.or_eq_false_iff] at h
  obtain⟨h1,h2⟩:=h
  refine⟨?_,fun g hg=>?_⟩
  · have:=of_decide_eq_false h1
    omega
  · have:=List.any_eq_false.1 h2 g hg
    unfold bigG at this
    simp at this
    omega
theorem matC_row (c : Ct):∀ r∈(matC c).1,r.length≤64:=by
  unfold matC
  by_cases h:plainErr c ≠ 0
  · rw[if_pos h];simp
  rw[if_neg h]
  obtain⟨n,hc⟩:=plain_ok (c:=c) (by simpa using h)
  obtain⟨p1,p2⟩:=pow6 hc.n6
  split
  · simp
  · intro r hr
    unfold rowsP at hr
    obtain⟨i,_,rfl⟩:=List.mem_map.1 hr
    rw[List.length_map,List.length_range,if_neg (by omega),hc.wires,Int.toNat_natCast]
    exact p1
def OwnR (M : PH) (u:Value) (m:Mx):Prop:=(u=.slice none 0 0∧m=[])∨∃ b0 rvs obs,u=.slice (some ⟨b0,0,none⟩) m.length m.length∧RowsA M b0 rvs m obs
theorem OwnR.sl {M : PH} {u:Value} {m:Mx} (h:OwnR M u m):∃ b n c,u=.slice b n c:=by
  rcases h with⟨rfl,_⟩ | ⟨b0,_,_,rfl,_⟩
  · exact⟨_,_,_,rfl⟩
  · exact⟨_,_,_,rfl⟩
theorem OwnR.up {M M' : PH} {u:Value} {m:Mx} (h:OwnR M u m) (hs:Sub M M'):OwnR M' u m:=by
  rcases h with h | ⟨b0,rvs,obs,e,h⟩
  · exact .inl h
  · exact .inr ⟨b0,rvs,obs,e,h.up hs⟩
theorem OwnR.mat {H M : PH} {u:Value} {m:Mx} (h:OwnR M u m) (hd:Dis H M):MatH (un H M) u m:=by
  rcases h with⟨rfl,rfl⟩ | ⟨b0,rvs,obs,rfl,h⟩
  · exact nilM _
  · exact h.mat hd rfl
theorem c52o {m : Mx} {H O:PH} {u v:Value} (hlen:m.length≤64) (hrow:∀ r∈m,r.length≤64) (hu:OwnR O u m) (hv:MatH H v m):Cl Tryz.prog 38 [u,v] H O fun r _ O'=>r=.bool true∧Sub O O':=
  (Cl.share' (c52c [] [] rfl (by decide) (fun r h=>by cases h) emp _ _ (nilM emp) (nilM emp)).ent fun hd=>c52c m m (eqM_refl m) (by omega) (fun r hr=>by have:=hrow r hr;omega) _ _ _ (OwnR.mat hu hd) (hv.up (un_left H O))).mono fun _ _ _ _ h=>⟨h.2,h.1⟩
theorem d39r {m : Mx} (hn:m.length≤64) {H M:PH} {u:Value} (h:OwnR M u m):Cl Tryz.prog 39 [u] H M fun _ _ _=>True:=by
  rcases h with⟨rfl,rfl⟩ | ⟨b0,rvs,obs,rfl,h⟩
  · exact c24nil H M
  · exact d39 b0 rvs m obs (by omega) H M h
theorem d22t (c : Ct) (hc:c.fit) (H:PH) (u v:Value) (hu:CircH H u c) (hv:CircH H v c):Cl Tryz.prog 22 [u,v] H emp fun r _ _=>r=.bool true:=by
  have:=d22 c c hc H u v hu hv
  rwa [decide_eq_true rfl,beq_self_eq_true,beq_self_eq_true] at this
set_option maxHeartbeats 16000000 in
theorem d5 (c d : Ct) (n k:Int) (hc0:c.gates.length < 9223372036854775808) (hd0:d.gates.length < 9223372036854775808) (H:PH) (x y:Value) (hG:GlobH H) (hc:GatesH H x c.gates) (hd:GatesH H y d.gates):Cl Tryz.prog 5 [cv c x,cv d y,.int .i64 n,.int .i64 k] H emp fun r _ _=>r=.bool true:=by
  obtain⟨xb,xc,rfl⟩:=hc.sl
  obtain⟨yb,yc,rfl⟩:=hd.sl
  refine Cl_of (pol:=polL) Γok Tryz.func5 (by kernel_rfl) rfl ?_
  conv=>whnf
  intro b1
  conv=>whnf
  intro b2
  conv=>whnf
  refine (d31 c hc0 _ _ ⟨_,rfl,hc⟩).val fun H3 s3=>?_
  have t3:=s3
  replace hG:=GlobH.up hG t3
  replace hc:=GatesH.up hc t3
  replace hd:=GatesH.up hd t3
  conv=>whnf
  refine if_intro (fun h1=>?_) (fun h1=>?_)
  · conv=>whnf
    refine (d9 _ hG).val fun H0 s0=>?_
    conv=>whnf
  conv=>whnf
  refine (d31 d hd0 _ _ ⟨_,rfl,hd⟩).val fun H4 s4=>?_
  have t4:=s4
  replace hG:=GlobH.up hG t4
  replace hc:=GatesH.up hc t4
  replace hd:=GatesH.up hd t4
  conv=>whnf
  refine if_intro (fun h2=>?_) (fun h2=>?_)
  · conv=>whnf
    refine (d9 _ hG).val fun H0 s0=>?_
    conv=>whnf
  have fc:=fit_great h1
  have fd:=fit_great h2
  conv=>whnf
  refine if_intro (fun h=>?_) (fun h=>?_)
  · conv=>whnf
    refine if_intro (fun h=>?_) (fun h=>?_)
    · conv=>whnf
      refine (d9 _ hG).val fun H0 s0=>?_
      conv=>whnf
    · conv=>whnf
      refine if_intro (fun h=>?_) (fun h=>?_)
      · conv=>whnf
        refine if_intro (fun h=>?_) (fun h=>?_)
        · conv=>whnf
          refine (d9 _ hG).val fun H0 s0=>?_
          conv=>whnf
        · conv=>whnf
          refine W_draw (pol:=polL) Γok mixes [(0,.pendO),(2,.pend),(1,.lock),(3,.lock),(4,.late),(5,.late),(6,.lock),(7,.lock)] 132 (by kernel_rfl) rfl ?_
          conv=>whnf
          refine (d10 c fc _ _ ⟨_,rfl,hc⟩).use fun r H1 s1 hr=>?_
          obtain⟨_,cx,rfl,hx⟩:=hr
          obtain⟨cxb,cxc,rfl⟩:=hx.sl
          have t1:=s1
          replace hG:=GlobH.up hG t1
          replace hc:=GatesH.up hc t1
          replace hd:=GatesH.up hd t1
          conv=>whnf
          refine (d10 d fd _ _ ⟨_,rfl,hd⟩).use fun r H2 s2 hr=>?_
          obtain⟨_,cy,rfl,hy⟩:=hr
          obtain⟨cyb,cyc,rfl⟩:=hy.sl
          have t2:=s2
          replace hG:=GlobH.up hG t2
          replace hc:=GatesH.up hc t2
          replace hd:=GatesH.up hd t2
          replace hx:=GatesH.up hx t2
          conv=>whnf
          intro b3
          conv=>whnf
          intro b4
          conv=>whnf
          refine (Cl.outR (d32o c fc _ _ ⟨_,rfl,hc⟩)).use fun r H5 s5 hr=>?_
          obtain⟨_,ma,rfl,hma⟩:=hr
          obtain⟨mab,mac,rfl⟩:=hma.sl
          have t5:=s5
          replace hG:=GlobH.up hG t5
          replace hc:=GatesH.up hc t5
          replace hd:=GatesH.up hd t5
          replace hx:=GatesH.up hx t5
          replace hy:=GatesH.up hy t5
          conv=>whnf
          refine (d33 c n k fc _ _ ⟨_,rfl,hc⟩).val fun H6 s6=>?_
          have t6:=s6
          replace hG:=GlobH.up hG t6
          replace hc:=GatesH.up hc t6
          replace hd:=GatesH.up hd t6
          replace hx:=GatesH.up hx t6
          replace hy:=GatesH.up hy t6
          replace hma:=MatH.up hma t6
          conv=>whnf
          intro b7
          conv=>whnf
          refine (d34 c d fc fd _ _ _ ⟨_,rfl,hc⟩ ⟨_,rfl,hd⟩).val fun H8 s8=>?_
          have t8:=s8
          replace hG:=GlobH.up hG t8
          replace hc:=GatesH.up hc t8
          replace hd:=GatesH.up hd t8
          replace hx:=GatesH.up hx t8
          replace hy:=GatesH.up hy t8
          replace hma:=MatH.up hma t8
          conv=>whnf
          refine (d35o c fc _ _ ⟨_,rfl,hx⟩).mono fun r H9 M9 s9 hr=>?_
          obtain⟨a,rfl,ha⟩:=hr
          have ha:OwnR _ a _:=ha
          obtain⟨ab,an,ac,rfl⟩:=OwnR.sl ha
          have t9:=s9
          replace hG:=GlobH.up hG t9
          replace hc:=GatesH.up hc t9
          replace hd:=GatesH.up hd t9
          replace hx:=GatesH.up hx t9
          replace hy:=GatesH.up hy t9
          replace hma:=MatH.up hma t9
          conv=>whnf
          refine (d36 c n k fc _ _ ⟨_,rfl,hx⟩).val fun H10 s10=>?_
          have t10:=s10
          replace hG:=GlobH.up hG t10
          replace hc:=GatesH.up hc t10
          replace hd:=GatesH.up hd t10
          replace hx:=GatesH.up hx t10
          replace hy:=GatesH.up hy t10
          replace hma:=MatH.up hma t10
          conv=>whnf
          intro b11
          conv=>whnf
          refine (d37 c d fc fd _ _ _ ⟨_,rfl,hx⟩ ⟨_,rfl,hy⟩).val fun H12 s12=>?_
          have t12:=s12
          replace hG:=GlobH.up hG t12
          replace hc:=GatesH.up hc t12
          replace hd:=GatesH.up hd t12
          replace hx:=GatesH.up hx t12
          replace hy:=GatesH.up hy t12
          replace hma:=MatH.up hma t12
          conv=>whnf
          refine if_intro (fun h13=>?_) (fun _=>?_)
          · exact absurd h13 (bne_no)
          conv=>whnf
          refine if_intro (fun h14=>?_) (fun _=>?_)
          · exact absurd h14 (bne_no)
          conv=>whnf
          refine if_intro (fun h15=>?_) (fun _=>?_)
          · exact absurd h15 (bne_no)
          conv=>whnf
          refine (c52o (matC_len c) (matC_row c) ha hma).mono fun r H16 M16 s16 hr=>?_
          obtain⟨rfl,hO⟩:=hr
          replace ha:=OwnR.up ha hO
          have t16:=s16
          replace hG:=GlobH.up hG t16
          replace hc:=GatesH.up hc t16
          replace hd:=GatesH.up hd t16
          replace hx:=GatesH.up hx t16
          replace hy:=GatesH.up hy t16
          replace hma:=MatH.up hma t16
          conv=>whnf
          refine if_intro (fun h17=>?_) (fun _=>?_)
          · exact absurd h17 (nnv_no)
          conv=>whnf
          refine if_intro (fun h=>?_) (fun _=>?_)
          · exact absurd h bne_no
          dsimp only[litK,setK]
          refine codeK_skip ?_
          dsimp only[]
          refine seq_stop fun K1 hK1=>?_
          conv=>whnf
          refine (d39r (matC_len c) ha).mono fun r H18 M18 s18 hr=>?_
          have t18:=s18
          replace hG:=GlobH.up hG t18
          replace hc:=GatesH.up hc t18
          replace hd:=GatesH.up hd t18
          replace hx:=GatesH.up hx t18
          replace hy:=GatesH.up hy t18
          replace hma:=MatH.up hma t18
          conv=>whnf
          rw[← hK1]
          clear hK1 K1
          conv=>whnf
          refine (d22t c fc _ _ _ ⟨_,rfl,hx⟩ ⟨_,rfl,hc⟩).val fun H19 s19=>?_
          have t19:=s19
          replace hG:=GlobH.up hG t19
          replace hc:=GatesH.up hc t19
          replace hd:=GatesH.up hd t19
          replace hx:=GatesH.up hx t19
          replace hy:=GatesH.up hy t19
          replace hma:=MatH.up hma t19
          conv=>whnf
          refine (d22t d fd _ _ _ ⟨_,rfl,hy⟩ ⟨_,rfl,hd⟩).val fun H20 s20=>?_
          have t20:=s20
          replace hG:=GlobH.up hG t20
          replace hc:=GatesH.up hc t20
          replace hd:=GatesH.up hd t20
          replace hx:=GatesH.up hx t20
          replace hy:=GatesH.up hy t20
          replace hma:=MatH.up hma t20
          conv=>whnf
          refine (d9 _ hG).val fun H21 s21=>?_
          have t21:=s21
          replace hG:=GlobH.up hG t21
          replace hc:=GatesH.up hc t21
          replace hd:=GatesH.up hd t21
          replace hx:=GatesH.up hx t21
          replace hy:=GatesH.up hy t21
          replace hma:=MatH.up hma t21
          conv=>whnf
      · conv=>whnf
        refine W_draw (pol:=polL) Γok mixes [(0,.pendO),(2,.pend),(1,.lock),(3,.lock),(4,.late),(5,.late),(6,.lock),(7,.lock)] 132 (by kernel_rfl) rfl ?_
        conv=>whnf
        refine (d10 c fc _ _ ⟨_,rfl,hc⟩).use fun r H1 s1 hr=>?_
        obtain⟨_,cx,rfl,hx⟩:=hr
        obtain⟨cxb,cxc,rfl⟩:=hx.sl
        have t1:=s1
        replace hG:=GlobH.up hG t1
        replace hc:=GatesH.up hc t1
        replace hd:=GatesH.up hd t1
        conv=>whnf
        refine (d10 d fd _ _ ⟨_,rfl,hd⟩).use fun r H2 s2 hr=>?_
        obtain⟨_,cy,rfl,hy⟩:=hr
        obtain⟨cyb,cyc,rfl⟩:=hy.sl
        have t2:=s2
        replace hG:=GlobH.up hG t2
        replace hc:=GatesH.up hc t2
        replace hd:=GatesH.up hd t2
        replace hx:=GatesH.up hx t2
        conv=>whnf
        intro b3
        conv=>whnf
        intro b4
        conv=>whnf
        refine (Cl.outR (d32o c fc _ _ ⟨_,rfl,hc⟩)).use fun r H5 s5 hr=>?_
        obtain⟨_,ma,rfl,hma⟩:=hr
        obtain⟨mab,mac,rfl⟩:=hma.sl
        have t5:=s5
        replace hG:=GlobH.up hG t5
        replace hc:=GatesH.up hc t5
        replace hd:=GatesH.up hd t5
        replace hx:=GatesH.up hx t5
        replace hy:=GatesH.up hy t5
        conv=>whnf
        refine (d33 c n k fc _ _ ⟨_,rfl,hc⟩).val fun H6 s6=>?_
        have t6:=s6
        replace hG:=GlobH.up hG t6
        replace hc:=GatesH.up hc t6
        replace hd:=GatesH.up hd t6
        replace hx:=GatesH.up hx t6
        replace hy:=GatesH.up hy t6
        replace hma:=MatH.up hma t6
        conv=>whnf
        intro b7
        conv=>whnf
        refine (d34 c d fc fd _ _ _ ⟨_,rfl,hc⟩ ⟨_,rfl,hd⟩).val fun H8 s8=>?_
        have t8:=s8
        replace hG:=GlobH.up hG t8
        replace hc:=GatesH.up hc t8
        replace hd:=GatesH.up hd t8
        replace hx:=GatesH.up hx t8
        replace hy:=GatesH.up hy t8
        replace hma:=MatH.up hma t8
        conv=>whnf
        refine (d35o c fc _ _ ⟨_,rfl,hx⟩).mono fun r H9 M9 s9 hr=>?_
        obtain⟨a,rfl,ha⟩:=hr
        have ha:OwnR _ a _:=ha
        obtain⟨ab,an,ac,rfl⟩:=OwnR.sl ha
        have t9:=s9
        replace hG:=GlobH.up hG t9
        replace hc:=GatesH.up hc t9
        replace hd:=GatesH.up hd t9
        replace hx:=GatesH.up hx t9
        replace hy:=GatesH.up hy t9
        replace hma:=MatH.up hma t9
        conv=>whnf
        refine (d36 c n k fc _ _ ⟨_,rfl,hx⟩).val fun H10 s10=>?_
        have t10:=s10
        replace hG:=GlobH.up hG t10
        replace hc:=GatesH.up hc t10
        replace hd:=GatesH.up hd t10
        replace hx:=GatesH.up hx t10
        replace hy:=GatesH.up hy t10
        replace hma:=MatH.up hma t10
        conv=>whnf
        intro b11
        conv=>whnf
        refine (d37 c d fc fd _ _ _ ⟨_,rfl,hx⟩ ⟨_,rfl,hy⟩).val fun H12 s12=>?_
        have t12:=s12
        replace hG:=GlobH.up hG t12
        replace hc:=GatesH.up hc t12
        replace hd:=GatesH.up hd t12
        replace hx:=GatesH.up hx t12
        replace hy:=GatesH.up hy t12
        replace hma:=MatH.up hma t12
        conv=>whnf
        refine if_intro (fun h13=>?_) (fun _=>?_)
        · exact absurd h13 (bne_no)
        conv=>whnf
        refine if_intro (fun h14=>?_) (fun _=>?_)
        · exact absurd h14 (bne_no)
        conv=>whnf
        refine if_intro (fun h15=>?_) (fun _=>?_)
        · exact absurd h15 (bne_no)
        conv=>whnf
        refine (c52o (matC_len c) (matC_row c) ha hma).mono fun r H16 M16 s16 hr=>?_
        obtain⟨rfl,hO⟩:=hr
        replace ha:=OwnR.up ha hO
        have t16:=s16
        replace hG:=GlobH.up hG t16
        replace hc:=GatesH.up hc t16
        replace hd:=GatesH.up hd t16
        replace hx:=GatesH.up hx t16
        replace hy:=GatesH.up hy t16
        replace hma:=MatH.up hma t16
        conv=>whnf
        refine if_intro (fun h17=>?_) (fun _=>?_)
        · exact absurd h17 (nnv_no)
        conv=>whnf
        refine if_intro (fun h=>?_) (fun _=>?_)
        · exact absurd h bne_no
        dsimp only[litK,setK]
        refine codeK_skip ?_
        dsimp only[]
        refine seq_stop fun K1 hK1=>?_
        conv=>whnf
        refine (d39r (matC_len c) ha).mono fun r H18 M18 s18 hr=>?_
        have t18:=s18
        replace hG:=GlobH.up hG t18
        replace hc:=GatesH.up hc t18
        replace hd:=GatesH.up hd t18
        replace hx:=GatesH.up hx t18
        replace hy:=GatesH.up hy t18
        replace hma:=MatH.up hma t18
        conv=>whnf
        rw[← hK1]
        clear hK1 K1
        conv=>whnf
        refine (d22t c fc _ _ _ ⟨_,rfl,hx⟩ ⟨_,rfl,hc⟩).val fun H19 s19=>?_
        have t19:=s19
        replace hG:=GlobH.up hG t19
        replace hc:=GatesH.up hc t19
        replace hd:=GatesH.up hd t19
        replace hx:=GatesH.up hx t19
        replace hy:=GatesH.up hy t19
        replace hma:=MatH.up hma t19
        conv=>whnf
        refine (d22t d fd _ _ _ ⟨_,rfl,hy⟩ ⟨_,rfl,hd⟩).val fun H20 s20=>?_
        have t20:=s20
        replace hG:=GlobH.up hG t20
        replace hc:=GatesH.up hc t20
        replace hd:=GatesH.up hd t20
        replace hx:=GatesH.up hx t20
        replace hy:=GatesH.up hy t20
        replace hma:=MatH.up hma t20
        conv=>whnf
        refine (d9 _ hG).val fun H21 s21=>?_
        have t21:=s21
        replace hG:=GlobH.up hG t21
        replace hc:=GatesH.up hc t21
        replace hd:=GatesH.up hd t21
        replace hx:=GatesH.up hx t21
        replace hy:=GatesH.up hy t21
        replace hma:=MatH.up hma t21
        conv=>whnf
  · conv=>whnf
    refine if_intro (fun h=>?_) (fun h=>?_)
    · conv=>whnf
      refine if_intro (fun h=>?_) (fun h=>?_)
      · conv=>whnf
        refine (d9 _ hG).val fun H0 s0=>?_
        conv=>whnf
      · conv=>whnf
        refine W_draw (pol:=polL) Γok mixes [(0,.pendO),(2,.pend),(1,.lock),(3,.lock),(4,.late),(5,.late),(6,.lock),(7,.lock)] 132 (by kernel_rfl) rfl ?_
        conv=>whnf
        refine (d10 c fc _ _ ⟨_,rfl,hc⟩).use fun r H1 s1 hr=>?_
        obtain⟨_,cx,rfl,hx⟩:=hr
        obtain⟨cxb,cxc,rfl⟩:=hx.sl
        have t1:=s1
        replace hG:=GlobH.up hG t1
        replace hc:=GatesH.up hc t1
        replace hd:=GatesH.up hd t1
        conv=>whnf
        refine (d10 d fd _ _ ⟨_,rfl,hd⟩).use fun r H2 s2 hr=>?_
        obtain⟨_,cy,rfl,hy⟩:=hr
        obtain⟨cyb,cyc,rfl⟩:=hy.sl
        have t2:=s2
        replace hG:=GlobH.up hG t2
        replace hc:=GatesH.up hc t2
        replace hd:=GatesH.up hd t2
        replace hx:=GatesH.up hx t2
        conv=>whnf
        intro b3
        conv=>whnf
        intro b4
        conv=>whnf
        refine (Cl.outR (d32o c fc _ _ ⟨_,rfl,hc⟩)).use fun r H5 s5 hr=>?_
        obtain⟨_,ma,rfl,hma⟩:=hr
        obtain⟨mab,mac,rfl⟩:=hma.sl
        have t5:=s5
        replace hG:=GlobH.up hG t5
        replace hc:=GatesH.up hc t5
        replace hd:=GatesH.up hd t5
        replace hx:=GatesH.up hx t5
        replace hy:=GatesH.up hy t5
        conv=>whnf
        refine (d33 c n k fc _ _ ⟨_,rfl,hc⟩).val fun H6 s6=>?_
        have t6:=s6
        replace hG:=GlobH.up hG t6
        replace hc:=GatesH.up hc t6
        replace hd:=GatesH.up hd t6
        replace hx:=GatesH.up hx t6
        replace hy:=GatesH.up hy t6
        replace hma:=MatH.up hma t6
        conv=>whnf
        intro b7
        conv=>whnf
        refine (d34 c d fc fd _ _ _ ⟨_,rfl,hc⟩ ⟨_,rfl,hd⟩).val fun H8 s8=>?_
        have t8:=s8
        replace hG:=GlobH.up hG t8
        replace hc:=GatesH.up hc t8
        replace hd:=GatesH.up hd t8
        replace hx:=GatesH.up hx t8
        replace hy:=GatesH.up hy t8
        replace hma:=MatH.up hma t8
        conv=>whnf
        refine (d35o c fc _ _ ⟨_,rfl,hx⟩).mono fun r H9 M9 s9 hr=>?_
        obtain⟨a,rfl,ha⟩:=hr
        have ha:OwnR _ a _:=ha
        obtain⟨ab,an,ac,rfl⟩:=OwnR.sl ha
        have t9:=s9
        replace hG:=GlobH.up hG t9
        replace hc:=GatesH.up hc t9
        replace hd:=GatesH.up hd t9
        replace hx:=GatesH.up hx t9
        replace hy:=GatesH.up hy t9
        replace hma:=MatH.up hma t9
        conv=>whnf
        refine (d36 c n k fc _ _ ⟨_,rfl,hx⟩).val fun H10 s10=>?_
        have t10:=s10
        replace hG:=GlobH.up hG t10
        replace hc:=GatesH.up hc t10
        replace hd:=GatesH.up hd t10
        replace hx:=GatesH.up hx t10
        replace hy:=GatesH.up hy t10
        replace hma:=MatH.up hma t10
        conv=>whnf
        intro b11
        conv=>whnf
        refine (d37 c d fc fd _ _ _ ⟨_,rfl,hx⟩ ⟨_,rfl,hy⟩).val fun H12 s12=>?_
        have t12:=s12
        replace hG:=GlobH.up hG t12
        replace hc:=GatesH.up hc t12
        replace hd:=GatesH.up hd t12
        replace hx:=GatesH.up hx t12
        replace hy:=GatesH.up hy t12
        replace hma:=MatH.up hma t12
        conv=>whnf
        refine if_intro (fun h13=>?_) (fun _=>?_)
        · exact absurd h13 (bne_no)
        conv=>whnf
        refine if_intro (fun h14=>?_) (fun _=>?_)
        · exact absurd h14 (bne_no)
        conv=>whnf
        refine if_intro (fun h15=>?_) (fun _=>?_)
        · exact absurd h15 (bne_no)
        conv=>whnf
        refine (c52o (matC_len c) (matC_row c) ha hma).mono fun r H16 M16 s16 hr=>?_
        obtain⟨rfl,hO⟩:=hr
        replace ha:=OwnR.up ha hO
        have t16:=s16
        replace hG:=GlobH.up hG t16
        replace hc:=GatesH.up hc t16
        replace hd:=GatesH.up hd t16
        replace hx:=GatesH.up hx t16
        replace hy:=GatesH.up hy t16
        replace hma:=MatH.up hma t16
        conv=>whnf
        refine if_intro (fun h17=>?_) (fun _=>?_)
        · exact absurd h17 (nnv_no)
        conv=>whnf
        refine if_intro (fun h=>?_) (fun _=>?_)
        · exact absurd h bne_no
        dsimp only[litK,setK]
        refine codeK_skip ?_
        dsimp only[]
        refine seq_stop fun K1 hK1=>?_
        conv=>whnf
        refine (d39r (matC_len c) ha).mono fun r H18 M18 s18 hr=>?_
        have t18:=s18
        replace hG:=GlobH.up hG t18
        replace hc:=GatesH.up hc t18
        replace hd:=GatesH.up hd t18
        replace hx:=GatesH.up hx t18
        replace hy:=GatesH.up hy t18
        replace hma:=MatH.up hma t18
        conv=>whnf
        rw[← hK1]
        clear hK1 K1
        conv=>whnf
        refine (d22t c fc _ _ _ ⟨_,rfl,hx⟩ ⟨_,rfl,hc⟩).val fun H19 s19=>?_
        have t19:=s19
        replace hG:=GlobH.up hG t19
        replace hc:=GatesH.up hc t19
        replace hd:=GatesH.up hd t19
        replace hx:=GatesH.up hx t19
        replace hy:=GatesH.up hy t19
        replace hma:=MatH.up hma t19
        conv=>whnf
        refine (d22t d fd _ _ _ ⟨_,rfl,hy⟩ ⟨_,rfl,hd⟩).val fun H20 s20=>?_
        have t20:=s20
        replace hG:=GlobH.up hG t20
        replace hc:=GatesH.up hc t20
        replace hd:=GatesH.up hd t20
        replace hx:=GatesH.up hx t20
        replace hy:=GatesH.up hy t20
        replace hma:=MatH.up hma t20
        conv=>whnf
        refine (d9 _ hG).val fun H21 s21=>?_
        have t21:=s21
        replace hG:=GlobH.up hG t21
        replace hc:=GatesH.up hc t21
        replace hd:=GatesH.up hd t21
        replace hx:=GatesH.up hx t21
        replace hy:=GatesH.up hy t21
        replace hma:=MatH.up hma t21
        conv=>whnf
    · conv=>whnf
      refine W_draw (pol:=polL) Γok mixes [(0,.pendO),(2,.pend),(1,.lock),(3,.lock),(4,.late),(5,.late),(6,.lock),(7,.lock)] 132 (by kernel_rfl) rfl ?_
      conv=>whnf
      refine (d10 c fc _ _ ⟨_,rfl,hc⟩).use fun r H1 s1 hr=>?_
      obtain⟨_,cx,rfl,hx⟩:=hr
      obtain⟨cxb,cxc,rfl⟩:=hx.sl
      have t1:=s1
      replace hG:=GlobH.up hG t1
      replace hc:=GatesH.up hc t1
      replace hd:=GatesH.up hd t1
      conv=>whnf
      refine (d10 d fd _ _ ⟨_,rfl,hd⟩).use fun r H2 s2 hr=>?_
      obtain⟨_,cy,rfl,hy⟩:=hr
      obtain⟨cyb,cyc,rfl⟩:=hy.sl
      have t2:=s2
      replace hG:=GlobH.up hG t2
      replace hc:=GatesH.up hc t2
      replace hd:=GatesH.up hd t2
      replace hx:=GatesH.up hx t2
      conv=>whnf
      intro b3
      conv=>whnf
      intro b4
      conv=>whnf
      refine (Cl.outR (d32o c fc _ _ ⟨_,rfl,hc⟩)).use fun r H5 s5 hr=>?_
      obtain⟨_,ma,rfl,hma⟩:=hr
      obtain⟨mab,mac,rfl⟩:=hma.sl
      have t5:=s5
      replace hG:=GlobH.up hG t5
      replace hc:=GatesH.up hc t5
      replace hd:=GatesH.up hd t5
      replace hx:=GatesH.up hx t5
      replace hy:=GatesH.up hy t5
      conv=>whnf
      refine (d33 c n k fc _ _ ⟨_,rfl,hc⟩).val fun H6 s6=>?_
      have t6:=s6
      replace hG:=GlobH.up hG t6
      replace hc:=GatesH.up hc t6
      replace hd:=GatesH.up hd t6
      replace hx:=GatesH.up hx t6
      replace hy:=GatesH.up hy t6
      replace hma:=MatH.up hma t6
      conv=>whnf
      intro b7
      conv=>whnf
      refine (d34 c d fc fd _ _ _ ⟨_,rfl,hc⟩ ⟨_,rfl,hd⟩).val fun H8 s8=>?_
      have t8:=s8
      replace hG:=GlobH.up hG t8
      replace hc:=GatesH.up hc t8
      replace hd:=GatesH.up hd t8
      replace hx:=GatesH.up hx t8
      replace hy:=GatesH.up hy t8
      replace hma:=MatH.up hma t8
      conv=>whnf
      refine (d35o c fc _ _ ⟨_,rfl,hx⟩).mono fun r H9 M9 s9 hr=>?_
      obtain⟨a,rfl,ha⟩:=hr
      have ha:OwnR _ a _:=ha
      obtain⟨ab,an,ac,rfl⟩:=OwnR.sl ha
      have t9:=s9
      replace hG:=GlobH.up hG t9
      replace hc:=GatesH.up hc t9
      replace hd:=GatesH.up hd t9
      replace hx:=GatesH.up hx t9
      replace hy:=GatesH.up hy t9
      replace hma:=MatH.up hma t9
      conv=>whnf
      refine (d36 c n k fc _ _ ⟨_,rfl,hx⟩).val fun H10 s10=>?_
      have t10:=s10
      replace hG:=GlobH.up hG t10
      replace hc:=GatesH.up hc t10
      replace hd:=GatesH.up hd t10
      replace hx:=GatesH.up hx t10
      replace hy:=GatesH.up hy t10
      replace hma:=MatH.up hma t10
      conv=>whnf
      intro b11
      conv=>whnf
      refine (d37 c d fc fd _ _ _ ⟨_,rfl,hx⟩ ⟨_,rfl,hy⟩).val fun H12 s12=>?_
      have t12:=s12
      replace hG:=GlobH.up hG t12
      replace hc:=GatesH.up hc t12
      replace hd:=GatesH.up hd t12
      replace hx:=GatesH.up hx t12
      replace hy:=GatesH.up hy t12
      replace hma:=MatH.up hma t12
      conv=>whnf
      refine if_intro (fun h13=>?_) (fun _=>?_)
      · exact absurd h13 (bne_no)
      conv=>whnf
      refine if_intro (fun h14=>?_) (fun _=>?_)
      · exact absurd h14 (bne_no)
      conv=>whnf
      refine if_intro (fun h15=>?_) (fun _=>?_)
      · exact absurd h15 (bne_no)
      conv=>whnf
      refine (c52o (matC_len c) (matC_row c) ha hma).mono fun r H16 M16 s16 hr=>?_
      obtain⟨rfl,hO⟩:=hr
      replace ha:=OwnR.up ha hO
      have t16:=s16
      replace hG:=GlobH.up hG t16
      replace hc:=GatesH.up hc t16
      replace hd:=GatesH.up hd t16
      replace hx:=GatesH.up hx t16
      replace hy:=GatesH.up hy t16
      replace hma:=MatH.up hma t16
      conv=>whnf
      refine if_intro (fun h17=>?_) (fun _=>?_)
      · exact absurd h17 (nnv_no)
      conv=>whnf
      refine if_intro (fun h=>?_) (fun _=>?_)
      · exact absurd h bne_no
      dsimp only[litK,setK]
      refine codeK_skip ?_
      dsimp only[]
      refine seq_stop fun K1 hK1=>?_
      conv=>whnf
      refine (d39r (matC_len c) ha).mono fun r H18 M18 s18 hr=>?_
      have t18:=s18
      replace hG:=GlobH.up hG t18
      replace hc:=GatesH.up hc t18
      replace hd:=GatesH.up hd t18
      replace hx:=GatesH.up hx t18
      replace hy:=GatesH.up hy t18
      replace hma:=MatH.up hma t18
      conv=>whnf
      rw[← hK1]
      clear hK1 K1
      conv=>whnf
      refine (d22t c fc _ _ _ ⟨_,rfl,hx⟩ ⟨_,rfl,hc⟩).val fun H19 s19=>?_
      have t19:=s19
      replace hG:=GlobH.up hG t19
      replace hc:=GatesH.up hc t19
      replace hd:=GatesH.up hd t19
      replace hx:=GatesH.up hx t19
      replace hy:=GatesH.up hy t19
      replace hma:=MatH.up hma t19
      conv=>whnf
      refine (d22t d fd _ _ _ ⟨_,rfl,hy⟩ ⟨_,rfl,hd⟩).val fun H20 s20=>?_
      have t20:=s20
      replace hG:=GlobH.up hG t20
      replace hc:=GatesH.up hc t20
      replace hd:=GatesH.up hd t20
      replace hx:=GatesH.up hx t20
      replace hy:=GatesH.up hy t20
      replace hma:=MatH.up hma t20
      conv=>whnf
      refine (d9 _ hG).val fun H21 s21=>?_
      have t21:=s21
      replace hG:=GlobH.up hG t21
      replace hc:=GatesH.up hc t21
      replace hd:=GatesH.up hd t21
      replace hx:=GatesH.up hx t21
      replace hy:=GatesH.up hy t21
      replace hma:=MatH.up hma t21
      conv=>whnf
end Go.Proofs.YtmhnalikebkhjaaGreatDoor

namespace Go.Proofs.YtmhnalikebkhjaaGreatDoor
open Go.Proofs.YtmhnalikebkhjaaGreatDoor.X Go.Proofs.YtmhnalikebkhjaaGreatDoor.X.PH
set_option maxRecDepth 100000
theorem next_outs_le (b : Br) (g:Gt) (o:Int):(nextB b g o).1.outs.length≤b.outs.length+1:=by
  by_cases h:isM g=true
  · rw[next_outs h];simp
  · rw[next_outs_un (by simpa using h)];omega
theorem run_outs : ∀ (gs:List Gt) (b:Br),∀ x∈(runB gs b).1,x.outs.length≤b.outs.length+gs.length
  | [],b,x,hx=>by
    unfold runB at hx
    split at hx
    · cases hx
    · rw[List.mem_singleton] at hx
      rw[hx];simp
  | g::gs,b,x,hx=>by
    have hn:=fun o=>next_outs_le b g o
    have hs:∀ o,∀ x∈(subR (runB gs) b g o).1,x.outs.length≤b.outs.length+(gs.length+1):=fun o x hx=>by
      unfold subR at hx
      split at hx
      · cases hx
      split at hx
      · cases hx
      · have:=run_outs gs _ x hx
        have:=hn o
        omega
    unfold runB at hx
    rw[List.length_cons]
    split at hx
    · split at hx
      · cases hx
      · have:=run_outs gs _ x hx
        have:=hn 0
        omega
    split at hx
    · cases hx
    split at hx
    · cases hx
    · rcases List.mem_append.1 hx with h | h
      · exact hs 0 x h
      · exact hs 1 x h
theorem run_facts (c : Ct) (v:Vec):∀ b∈(runR c v).1,b.outs.length≤200∧b.state.length≤64:=by
  intro b hb
  by_cases he:beginErr c v ≠ 0
  · unfold runR at hb
    rw[if_pos he] at hb
    cases hb
  have he:beginErr c v=0:=by simpa using he
  obtain⟨n,m,hok⟩:=run_ok he
  obtain⟨e1,e2,e3⟩:=runE_eq he hok
  obtain⟨p1,p2⟩:=pow6 hok.n6
  by_cases h0:(runR c v).2=0
  · constructor
    · have h2:=hb
      unfold runR at h2
      rw[if_neg (by rw[he];simp)] at h2
      have:=run_outs _ _ b h2
      have hl:=hok.len
      have hz:(startB v).outs.length=0:=rfl
      omega
    · rw[← e2 h0] at hb
      have:=(ev_mem c.gates (startB v) 0 hok.gates hok.start hok.startBit b hb).2.1
      omega
  · rw[e3 h0] at hb
    cases hb
theorem steps_len (l : List Int):∀ (gs:List Gt) (b:Br),(stepsB l gs b).1.outs.length≤b.outs.length+gs.length
  | [],b=>Nat.le_refl _
  | g::gs,b=>by
    unfold stepsB
    split
    · simp[br0]
    · have:=steps_len l gs (nextB b g (l.getD b.outs.length 0)).1
      have:=next_outs_le b g (l.getD b.outs.length 0)
      rw[List.length_cons]
      omega
theorem along_facts (c : Ct) (v:Vec) (l:List Int):(alongR c v l).1.outs.length≤200∧(alongR c v l).1.state.length≤64:=by
  unfold alongR
  by_cases he:beginErr c v ≠ 0
  · rw[if_pos he];exact⟨Nat.zero_le _,Nat.zero_le _⟩
  have he':beginErr c v=0:=by simpa using he
  obtain⟨n,m,hok⟩:=run_ok he'
  obtain⟨p1,p2⟩:=pow6 hok.n6
  rw[if_neg he]
  split
  · exact⟨Nat.zero_le _,Nat.zero_le _⟩
  split
  · exact⟨Nat.zero_le _,Nat.zero_le _⟩
  split
  · exact⟨Nat.zero_le _,Nat.zero_le _⟩
  rename_i hs
  split
  · exact⟨Nat.zero_le _,Nat.zero_le _⟩
  · have h1:=steps_len l c.gates (startB v)
    have h2:=(steps_ok l c.gates (startB v) 0 hok.gates hok.start (by simpa using hs)).1
    have hl:=hok.len
    have hz:(startB v).outs.length=0:=rfl
    dsimp only
    omega
def BrM (M : PH) (b:Br) (c:List Value):Prop:=∃ ov sv,c=[ov,.int .i64 b.bits,sv]∧IntsO M ov b.outs∧NumO M sv b.state
def ApB (a : Br) (c c':List Value):Prop:=∀ ov sv k ov' sv' k',c=[ov,k,sv]→c'=[ov',k',sv']→ApS ov a.outs.length ov'∧ApS sv a.state.length sv'
structure OwnBs (M : PH) (u:Value) (bs:List Br) (cs:List (List Value)):Prop where
  list:OwnS M 3 47 u cs
  len:cs.length=bs.length
  at_:∀ (j:Nat) b c,bs[j]?=some b→cs[j]?=some c→BrM M b c
  ap:∀ (i j:Nat) b c c',i < j→bs[i]?=some b→cs[i]?=some c→cs[j]?=some c'→ApB b c c'
theorem ap_new {H0 Hp H : PH} {t t':TypeId} {sz sz':Nat} {a b:Value} {xs ys:List (List Value)} (ha:OwnS (newH H0 Hp) sz t a xs) (hb:OwnS (newH Hp H) sz' t' b ys):ApS a xs.length b:=by
  intro n cap ea lb cap' eb
  rcases ha.2 with⟨e,_⟩ | ⟨n1,c1,s1,e,h1,_⟩
  · rw[ea] at e;cases e
  rcases hb.2 with⟨e',_⟩ | ⟨n2,c2,s2,e',h2,_⟩
  · rw[eb] at e';cases e'
  rw[ea] at e;cases e
  rw[eb] at e';cases e'
  have h3:=newH_sub _ _ _ _ h1
  unfold newH at h2
  rw[h3] at h2
  cases h2
theorem d16w (c : Ct) (v:Vec) (gs:Value) (hfit:c.fit) (hv:v.length≤100000) (H:PH) (y:Value) (hx:GatesH H gs c.gates) (hy:NumH H y v):Cl Tryz.prog 16 [cv c gs,y] H emp fun r _ M'=>∃ u cs,r=.tuple #[u,.int .i64 (runR c v).2]∧OwnBs M' u (runR c v).1 cs:=
  (Cl.own (d16 c v gs hfit hv H y hx hy)).mono fun r H2 M2 _ h=>by
    obtain⟨rfl,H',M',⟨u,cs,e,h1,h2⟩,hs,_,hM,hN⟩:=h
    have hsub:Sub (newH H2 H') M2:=fun n o hn=>by
      unfold newH at hn
      cases e:H2 n with
      | some _=>rw[e] at hn;cases hn
      | none=>rw[e] at hn;exact hN n o e hn
    refine⟨u,cs,e,OwnS.upS h1 hM,h2.1,fun j b c hb hc=>?_,fun i j b d0 c' hij hb hc hc'=>?_⟩
    · obtain⟨ov,sv,e,a1,a2⟩:=h2.at hb hc
      exact⟨ov,sv,e,OwnS.upS a1 hsub,OwnS.upS a2 hsub⟩
    · have hj:j < (runR c v).1.length:=by rw[← h2.1];exact (List.getElem?_eq_some_iff.1 hc').1
      obtain⟨Hp,q1,q2,q3,q4⟩:=h2.2 j _ c' (List.getElem?_eq_getElem hj) hc'
      obtain⟨ov',sv',e',b1,b2⟩:=q3
      obtain⟨ov,sv,e2,a1,a2⟩:=q4 i b d0 hij hb hc
      intro xo xs k xo' xs' k' ex ex'
      rw[ex] at e2
      rw[ex'] at e'
      cases e2
      cases e'
      have r1:=ap_new a1 b1
      have r2:=ap_new a2 b2
      rw[List.length_map] at r1 r2
      exact⟨r1,r2⟩
theorem d17w (c : Ct) (v:Vec) (l:List Int) (gs:Value) (hfit:c.fit) (hv:v.length≤100000) (hl:l.length≤100000) (H:PH) (y z:Value) (hx:GatesH H gs c.gates) (hy:NumH H y v) (hz:IntsC H z l):Cl Tryz.prog 17 [cv c gs,y,z] H emp fun r _ M'=>∃ c',r=.tuple #[.agg ⟨c'⟩,.int .i64 (alongR c v l).2]∧BrM M' (alongR c v l).1 c':=
  (Cl.own (d17 c v l gs hfit hv hl H y z hx hy hz)).mono fun r H2 M2 _ h=>by
    obtain⟨rfl,H',M',⟨c',e,ov,sv,e2,a1,a2⟩,hs,_,hM,hN⟩:=h
    have hsub:Sub (newH H2 H') M2:=fun n o hn=>by
      unfold newH at hn
      cases e:H2 n with
      | some _=>rw[e] at hn;cases hn
      | none=>rw[e] at hn;exact hN n o e hn
    exact⟨c',e,ov,sv,e2,OwnS.upS a1 hsub,OwnS.upS a2 hsub⟩
theorem IntsO.share {H M : PH} {v:Value} {l:List Int} (h:IntsO M v l) (hd:Dis H M):IntsC (un H M) v l:=by
  have h2:IntsW emp (un H M) v l:=OwnS.upS h fun n o hn=>newH_some rfl (un_right hd hn)
  exact IntsW.c h2
theorem same_refl (a : Br):sameB a a=true:=by
  unfold sameB
  rw[eqL_refl]
  simp
theorem d19o {a : Br} {H O:PH} {x y:List Value} (ho:a.outs.length≤200) (hs:a.state.length≤64) (hx:BrM O a x) (hy:BrC H a y):Cl Tryz.prog 19 [.agg ⟨x⟩,.agg ⟨y⟩] H O fun r _ O'=>r=.bool true∧Sub O O':=
  (Cl.share' (d19 br0 br0 (by simp[br0]) (by simp[br0]) emp _ _ (BrC.zero emp) (BrC.zero emp)).ent fun hd=>by
    obtain⟨ov,sv,e,h1,h2⟩:=hx
    have:=d19 a a (by omega) (by omega) (un H O) x y ⟨ov,sv,e,IntsO.share h1 hd,NumO.share h2 hd⟩ (hy.up (un_left H O))
    rwa [same_refl] at this).mono fun _ _ _ _ h=>⟨h.2,h.1⟩
theorem ap_type {O : PH} {t t':TypeId} {sz sz':Nat} {a b:Value} {xs ys:List (List Value)} (ha:OwnS O sz t a xs) (hb:OwnS O sz' t' b ys) (ht:t ≠ t'):ApS a xs.length b:=by
  intro n cap ea lb cap' eb
  rcases ha.2 with⟨e,_⟩ | ⟨n1,c1,s1,e,h1,_⟩
  · rw[ea] at e;cases e
  rcases hb.2 with⟨e',_⟩ | ⟨n2,c2,s2,e',h2,_⟩
  · rw[eb] at e';cases e'
  rw[ea] at e;cases e
  rw[eb] at e';cases e'
  have e:=Option.some.inj (h1.symm.trans h2)
  exact ht (Obj.cells.inj e).2.1
end Go.Proofs.YtmhnalikebkhjaaGreatDoor

namespace Go.Proofs.YtmhnalikebkhjaaGreatDoor
open Go.Proofs.YtmhnalikebkhjaaGreatDoor.X Go.Proofs.YtmhnalikebkhjaaGreatDoor.X.PH
set_option maxRecDepth 100000
theorem codeK_exit {Γ : TypeId→TI} {P:Program} {r:Option Nat} {pol:Tmp→Pol} {id:Nat} {s:S} {K:Exit→S→Prop} (h:K (.exit id) s):codeK Γ P r pol (.exit id) s K:=h
theorem BrM.up {M M' : PH} {b:Br} {c:List Value} (h:BrM M b c) (hs:Sub M M'):BrM M' b c:=by
  obtain⟨ov,sv,e,h1,h2⟩:=h
  exact⟨ov,sv,e,OwnS.upS h1 hs,OwnS.upS h2 hs⟩
theorem BrM.kept {O O' : PH} {a:Value} {la:Nat} {b:Br} {c:List Value} (h:BrM O b c) (ho:∀ ov sv k,c=[ov,k,sv]→ApS a la ov∧ApS a la sv) (hk:∀ n o,O n=some o→(∀ cap,a ≠ .slice (some ⟨n,0,none⟩) la cap)→O' n=some o):BrM O' b c:=by
  obtain⟨ov,sv,e,h1,h2⟩:=h
  obtain⟨a1,a2⟩:=ho ov sv _ e
  exact⟨ov,sv,e,OwnS.kept h1 a1 hk,OwnS.kept h2 a2 hk⟩
theorem BrM.clearS {O O' : PH} {sv:Value} {st:Vec} {b:Br} {c':List Value} (ha:NumO O sv st) (h:BrM O b c') (hap:∀ ov' sv' k,c'=[ov',k,sv']→ApS sv st.length sv') (hk:∀ n o,O n=some o→(∀ cap,sv ≠ .slice (some ⟨n,0,none⟩) (st.map cellsOf).length cap)→O' n=some o):BrM O' b c':=by
  obtain⟨ov',sv',e,h1,h2⟩:=h
  exact⟨ov',sv',e,OwnS.kept h1 (ap_type ha h1 (by decide)) hk,OwnS.kept h2 (by rw[List.length_map];exact hap _ _ _ e) hk⟩
theorem BrM.clearO {O O' : PH} {ov:Value} {os:List Int} {b:Br} {c':List Value} (ha:IntsO O ov os) (h:BrM O b c') (hap:∀ ov' sv' k,c'=[ov',k,sv']→ApS ov os.length ov') (hk:∀ n o,O n=some o→(∀ cap,ov ≠ .slice (some ⟨n,0,none⟩) (os.map fun x=>[Value.int .i64 x]).length cap)→O' n=some o):BrM O' b c':=by
  obtain⟨ov',sv',e,h1,h2⟩:=h
  exact⟨ov',sv',e,OwnS.kept h1 (by rw[List.length_map];exact hap _ _ _ e) hk,OwnS.kept h2 (ap_type ha h2 (by decide)) hk⟩
theorem OwnS.rdN {H O : PH} {sz:Nat} {t:TypeId} {base:Option Addr} {n cap:Nat} {xs:List (List Value)} (h:OwnS O sz t (.slice base n cap) xs) {i:Nat} (hi:i < xs.length):∃ b,base=some ⟨b,0,none⟩∧Rd H O ⟨b,0+i*sz,none⟩ sz xs[i]:=by
  obtain⟨h1,h2⟩:=h
  rcases h2 with⟨_,e⟩ | ⟨b,cap',sp,e,hO,_,_⟩
  · rw[e] at hi;cases hi
  · cases e
    refine⟨b,rfl,rfl,h1 _ (List.getElem_mem hi),_,_,_,.inr hO,?_⟩
    rw[← flat_at h1 hi,Nat.zero_add]
    show ((xs.flatten++sp).drop (i*sz)).take sz=_
    have hle:i*sz+sz≤xs.flatten.length:=by
      rw[flat_length h1,← Nat.succ_mul]
      exact Nat.mul_le_mul_right _ hi
    rw[List.drop_append_of_le_length (by omega),List.take_append_of_le_length (by rw[List.length_drop];omega)]
theorem run_len (c : Ct) (v:Vec):(runR c v).1.length≤256:=by
  unfold runR
  by_cases he:beginErr c v ≠ 0
  · rw[if_pos he];exact Nat.zero_le _
  rw[if_neg he]
  obtain⟨n,m,hok⟩:=run_ok (c:=c) (v:=v) (by simpa using he)
  exact Nat.le_trans (runB_len c.gates (startB v)) (Nat.pow_le_pow_right (n:=2) (by decide) hok.few)
theorem bitsF_len : ∀ (l:List Br) (acc:Vec),(bitsF acc l).1.length≤acc.length
  | [],acc=>Nat.le_refl _
  | b::l,acc=>by
    unfold bitsF
    split
    · exact Nat.zero_le _
    · refine Nat.le_trans (bitsF_len l _) ?_
      unfold bstep
      split
      · exact Nat.zero_le _
      split
      · exact Nat.zero_le _
      · rw[List.length_set];exact Nat.le_refl _
theorem bits_short (c : Ct) (v:Vec):(bitsR c v).1.length < 9223372036854775808:=by
  unfold bitsR
  split
  · simp
  · rename_i h
    have h0:(runR c v).2=0:=by simpa using h
    obtain⟨n,m,hok⟩:=run_ok (run_begin h0)
    refine Nat.lt_of_le_of_lt (bitsF_len _ _) ?_
    have hm1:2 ^ m≤256:=Nat.pow_le_pow_right (n:=2) (by decide) hok.m8
    rw[hok.bits,Int.toNat_natCast]
    simp[zeros]
    omega
theorem fit_small {c : Ct} {n:Nat} (h:smallB c n=true):c.fit∧n≤66:=by
  unfold smallB at h
  rw[Bool.and_eq_true,Bool.and_eq_true] at h
  obtain⟨⟨h1,_⟩,h2⟩:=h
  refine⟨fit_great (by simpa using h1),?_⟩
  have:=of_decide_eq_true h2
  omega
set_option maxHeartbeats 16000000 in
theorem d3 (c : Ct) (v:Vec) (l:List Int) (hc0:c.gates.length < 9223372036854775808) (hv0:v.length < 9223372036854775808) (H:PH) (x y z:Value) (hG:GlobH H) (hc:GatesH H x c.gates) (hy:NumH H y v) (hz:IntsC H z l):Cl Tryz.prog 3 [cv c x,y,z] H emp fun r _ _=>r=.bool true:=by
  obtain⟨xb,xc,rfl⟩:=hc.sl
  obtain⟨yb,yc,rfl,_⟩:=id hy
  obtain⟨zb,zc,rfl,_⟩:=id hz
  refine Cl_of (pol:=polL) Γok Tryz.func3 (by kernel_rfl) rfl ?_
  conv=>whnf
  intro b1
  conv=>whnf
  refine (d8 c v hc0 _ _ _ ⟨_,rfl,hc⟩ hy).val fun H2 s2=>?_
  have t2:=s2
  replace hG:=GlobH.up hG t2
  replace hc:=GatesH.up hc t2
  replace hy:=NumH.up hy t2
  replace hz:=IntsC.up hz t2
  conv=>whnf
  refine if_intro (fun h1=>?_) (fun h1=>?_)
  · conv=>whnf
    refine (d9 _ hG).val fun H0 s0=>?_
    conv=>whnf
  obtain⟨fc,hv66⟩:=fit_small (not_false h1)
  conv=>whnf
  refine if_intro (fun h2=>?_) (fun h2=>?_)
  · conv=>whnf
    refine (d9 _ hG).val fun H0 s0=>?_
    conv=>whnf
  have h2:l.length≤20:=by have:=of_decide_eq_false h2;omega
  conv=>whnf
  refine (d10 c fc _ _ ⟨_,rfl,hc⟩).use fun r H3 s3 hr=>?_
  obtain⟨_,cx,rfl,hx⟩:=hr
  obtain⟨cxb,cxc,rfl⟩:=hx.sl
  have t3:=s3
  replace hG:=GlobH.up hG t3
  replace hc:=GatesH.up hc t3
  replace hy:=NumH.up hy t3
  replace hz:=IntsC.up hz t3
  conv=>whnf
  refine (c43' v _ _ hy (by omega)).use fun r H4 s4 hr=>?_
  obtain⟨_,cy⟩:=hr
  obtain⟨cyb,cyc,rfl,_⟩:=id cy
  have t4:=s4
  replace hG:=GlobH.up hG t4
  replace hc:=GatesH.up hc t4
  replace hy:=NumH.up hy t4
  replace hz:=IntsC.up hz t4
  replace hx:=GatesH.up hx t4
  conv=>whnf
  refine (c16C l (by omega) _ _ hz.h).use fun r H5 s5 hr=>?_
  obtain⟨_,cz⟩:=hr
  obtain⟨czb,czc,rfl,_⟩:=id cz
  have t5:=s5
  replace hG:=GlobH.up hG t5
  replace hc:=GatesH.up hc t5
  replace hy:=NumH.up hy t5
  replace hz:=IntsC.up hz t5
  replace hx:=GatesH.up hx t5
  replace cy:=NumH.up cy t5
  conv=>whnf
  intro b6
  conv=>whnf
  refine (d13 c v fc (by omega) _ _ _ ⟨_,rfl,hc⟩ hy).use fun r H7 s7 hr=>?_
  obtain⟨_,ra,rfl,rcs,hra,hrb⟩:=hr
  obtain⟨rab,rac,rfl⟩:=hra.sl
  have hrl:=hrb.1
  have t7:=s7
  replace hG:=GlobH.up hG t7
  replace hc:=GatesH.up hc t7
  replace hy:=NumH.up hy t7
  replace hz:=IntsC.up hz t7
  replace hx:=GatesH.up hx t7
  replace cy:=NumH.up cy t7
  replace cz:=IntsC.up cz t7
  conv=>whnf
  refine (d14 c v l fc (by omega) (by omega) _ _ _ _ ⟨_,rfl,hc⟩ hy hz.h).use fun r H8 s8 hr=>?_
  obtain⟨_,u,rfl,ov,sv,rfl,ho1,ho2⟩:=hr
  have hone:BrC _ (alongR c v l).1 [ov,.int .i64 (alongR c v l).1.bits,sv]:=⟨_,_,rfl,ho1,ho2⟩
  obtain⟨ovb,ovc,rfl,_⟩:=id ho1
  obtain⟨svb,svc,rfl,_⟩:=id ho2
  have t8:=s8
  replace hG:=GlobH.up hG t8
  replace hc:=GatesH.up hc t8
  replace hy:=NumH.up hy t8
  replace hz:=IntsC.up hz t8
  replace hx:=GatesH.up hx t8
  replace cy:=NumH.up cy t8
  replace cz:=IntsC.up cz t8
  replace hra:=RecsH.up hra t8
  replace hrb:=BrsC.up hrb t8
  conv=>whnf
  intro b9
  conv=>whnf
  refine (d15 c v fc (by omega) _ _ _ ⟨_,rfl,hc⟩ hy).use fun r H10 s10 hr=>?_
  obtain⟨_,ba,rfl,hba⟩:=hr
  obtain⟨bab,bac,rfl,_⟩:=id hba
  have t10:=s10
  replace hG:=GlobH.up hG t10
  replace hc:=GatesH.up hc t10
  replace hy:=NumH.up hy t10
  replace hz:=IntsC.up hz t10
  replace hx:=GatesH.up hx t10
  replace cy:=NumH.up cy t10
  replace cz:=IntsC.up cz t10
  replace hra:=RecsH.up hra t10
  replace hrb:=BrsC.up hrb t10
  replace hone:=BrC.up hone t10
  conv=>whnf
  refine (d16w c v _ fc (by omega) _ _ hx cy).mono fun r H11 M11 s11 hr=>?_
  obtain⟨u,cs,rfl,hB⟩:=hr
  obtain⟨hBl,hBn,hBa,hBp⟩:=hB
  obtain⟨ub,un1,uc,rfl⟩:=OwnS.sl hBl
  have hul:un1=cs.length:=by
    rcases hBl.2 with⟨e,e2⟩ | ⟨_,_,_,e,_⟩
    · cases e;rw[e2]<;>rfl
    · cases e;rfl
  subst hul
  have t11:=s11
  replace hG:=GlobH.up hG t11
  replace hc:=GatesH.up hc t11
  replace hy:=NumH.up hy t11
  replace hz:=IntsC.up hz t11
  replace hx:=GatesH.up hx t11
  replace cy:=NumH.up cy t11
  replace cz:=IntsC.up cz t11
  replace hra:=RecsH.up hra t11
  replace hrb:=BrsC.up hrb t11
  replace hone:=BrC.up hone t11
  replace hba:=NumH.up hba t11
  conv=>whnf
  refine ((d17w c v l _ fc (by omega) (by omega) _ _ _ hx cy cz).pure).mono fun r H12 M12 s12 hr=>?_
  obtain⟨Mb,hp,c2,rfl,o2,s2,rfl,hO1,hO2⟩:=hr
  have hX:∀ sz t a xs,OwnS _ sz t a xs→ApS a xs.length o2∧ApS a xs.length s2:=fun sz t a xs h=>⟨ap_parts hp h hO1,ap_parts hp h hO2⟩
  have hBa0:=hBa
  replace hBa:=fun j b c h1 h2=>(hBa j b c h1 h2).up hp.right
  replace hBl:=OwnS.upS hBl hp.right
  obtain⟨o2b,o2n,o2c,rfl⟩:=OwnS.sl hO1
  obtain⟨s2b,s2n,s2c,rfl⟩:=OwnS.sl hO2
  have hAl:=BrM.up ⟨_,_,rfl,hO1,hO2⟩ hp.left
  have hAl:BrM _ (alongR c v l).1 _:=hAl
  have t12:=s12
  replace hG:=GlobH.up hG t12
  replace hc:=GatesH.up hc t12
  replace hy:=NumH.up hy t12
  replace hz:=IntsC.up hz t12
  replace hx:=GatesH.up hx t12
  replace cy:=NumH.up cy t12
  replace cz:=IntsC.up cz t12
  replace hra:=RecsH.up hra t12
  replace hrb:=BrsC.up hrb t12
  replace hone:=BrC.up hone t12
  replace hba:=NumH.up hba t12
  conv=>whnf
  intro b13
  conv=>whnf
  refine (d18 c v _ fc (by omega) _ _ hx cy).use fun r H14 s14 hr=>?_
  obtain⟨_,bb,rfl,hbb⟩:=hr
  obtain⟨bbb,bbc,rfl,_⟩:=id hbb
  have t14:=s14
  replace hG:=GlobH.up hG t14
  replace hc:=GatesH.up hc t14
  replace hy:=NumH.up hy t14
  replace hz:=IntsC.up hz t14
  replace hx:=GatesH.up hx t14
  replace cy:=NumH.up cy t14
  replace cz:=IntsC.up cz t14
  replace hra:=RecsH.up hra t14
  replace hrb:=BrsC.up hrb t14
  replace hone:=BrC.up hone t14
  replace hba:=NumH.up hba t14
  conv=>whnf
  refine W_draw (pol:=polL) Γok mixes [(0,.pendO),(1,.pendO),(2,.pendO),(3,.pendO),(4,.pendO),(5,.pendO),(6,.pendO),(7,.pendO),(8,.pendO),(9,.pendO),(10,.pendO),(11,.pendO),(12,.pendO),(13,.pendO),(14,.pendO),(15,.pendO),(16,.pendO),(17,.pendO),(18,.pendO),(19,.pendO),(20,.pendO),(21,.pend),(22,.pendO),(23,.lock),(24,.lock),(25,.pendO),(26,.pendO),(27,.pendO),(28,.pendO),(29,.pendO),(30,.lock),(31,.pendO),(32,.pendO)] 151 (by kernel_rfl) rfl ?_
  conv=>whnf
  refine if_intro (fun h15=>?_) (fun _=>?_)
  · exact absurd h15 (bne_no)
  conv=>whnf
  refine if_intro (fun h16=>?_) (fun _=>?_)
  · exact absurd h16 (bne_no)
  conv=>whnf
  refine if_intro (fun h17=>?_) (fun _=>?_)
  · exact absurd h17 (bne_no)
  conv=>whnf
  refine if_intro (fun h18=>?_) (fun _=>?_)
  · exact absurd h18 (by rw[hBn,hrl];exact bne_no)
  conv=>whnf
  refine (d20 _ _ _ ⟨_,_,_,rfl⟩ ⟨_,_,rfl⟩ ⟨_,_,_,rfl⟩ _).val fun H19 s19=>?_
  have t19:=s19
  replace hG:=GlobH.up hG t19
  replace hc:=GatesH.up hc t19
  replace hy:=NumH.up hy t19
  replace hz:=IntsC.up hz t19
  replace hx:=GatesH.up hx t19
  replace cy:=NumH.up cy t19
  replace cz:=IntsC.up cz t19
  replace hra:=RecsH.up hra t19
  replace hrb:=BrsC.up hrb t19
  replace hone:=BrC.up hone t19
  replace hba:=NumH.up hba t19
  replace hbb:=NumH.up hbb t19
  conv=>whnf
  refine (d19o (along_facts c v l).1 (along_facts c v l).2 hAl hone).mono fun r H20 M20 s20 hr=>?_
  obtain⟨rfl,hO⟩:=hr
  replace hAl:=hAl.up hO
  replace hBa:=fun j b c h1 h2=>(hBa j b c h1 h2).up hO
  replace hBl:=OwnS.upS hBl hO
  have t20:=s20
  replace hG:=GlobH.up hG t20
  replace hc:=GatesH.up hc t20
  replace hy:=NumH.up hy t20
  replace hz:=IntsC.up hz t20
  replace hx:=GatesH.up hx t20
  replace cy:=NumH.up cy t20
  replace cz:=IntsC.up cz t20
  replace hra:=RecsH.up hra t20
  replace hrb:=BrsC.up hrb t20
  replace hone:=BrC.up hone t20
  replace hba:=NumH.up hba t20
  replace hbb:=NumH.up hbb t20
  conv=>whnf
  refine (c48t _ _ (eqL_refl (bitsR c v).1) (bits_short c v) _ _ _ hbb hba).val fun H21 s21=>?_
  have t21:=s21
  replace hG:=GlobH.up hG t21
  replace hc:=GatesH.up hc t21
  replace hy:=NumH.up hy t21
  replace hz:=IntsC.up hz t21
  replace hx:=GatesH.up hx t21
  replace cy:=NumH.up cy t21
  replace cz:=IntsC.up cz t21
  replace hra:=RecsH.up hra t21
  replace hrb:=BrsC.up hrb t21
  replace hone:=BrC.up hone t21
  replace hba:=NumH.up hba t21
  replace hbb:=NumH.up hbb t21
  conv=>whnf
  have hcs:cs.length≤256:=by rw[hBn];exact run_len c v
  refine W_loop (pol:=polL) Γok (Nat × PH × PH) (fun z=>z.1≤cs.length∧Sub H21 z.2.1∧OwnS z.2.2 3 47 (.slice ub cs.length uc) cs∧(∀ (j:Nat) b c',z.1≤j→(runR c v).1[j]?=some b→cs[j]?=some c'→BrM z.2.2 b c')∧BrM z.2.2 (alongR c v l).1 [.slice o2b o2n o2c,.int .i64 (alongR c v l).1.bits,.slice s2b s2n s2c]) (fun z=>cs.length - z.1) (fun z=>[(113,.v (.int .i64 z.1))]) (fun _=>[]) (fun z=>z.2.1) (fun z=>z.2.2) ⟨(0,H21,M20),⟨Nat.zero_le _,Sub.refl _,hBl,fun j b c' _ h1 h2=>hBa j b c' h1 h2,hAl⟩,rfl,rfl,?_⟩ ?_
  · conv=>whnf
    repeat (refine⟨rfl,?_⟩;conv=>whnf)
    exact trivial
  rintro ⟨i,Hi,Oi⟩ ⟨h1i,hsi,hli,hbi,hai⟩
  dsimp only at h1i hsi hli hbi hai
  conv=>whnf
  refine if_intro (fun hci=>?_) (fun hci=>?_)
  · have hii:i < cs.length:=by
      have:=of_decide_eq_true hci
      omega
    have hir:i < (runR c v).1.length:=by omega
    have hirr:i < rcs.length:=by omega
    obtain⟨ov,sv,ec,ho1,ho2⟩:=hbi i _ _ (Nat.le_refl _) (List.getElem?_eq_getElem hir) (List.getElem?_eq_getElem hii)
    obtain⟨ov0,sv0,ec0,q1,q2⟩:=hBa0 i _ _ (List.getElem?_eq_getElem hir) (List.getElem?_eq_getElem hii)
    rw[ec] at ec0
    cases ec0
    have hx1:=hX _ _ _ _ q1
    have hx2:=hX _ _ _ _ q2
    rw[List.length_map] at hx1 hx2
    have hpp:∀ (j:Nat) c',i < j→cs[j]?=some c'→∀ ov' sv' k,c'=[ov',k,sv']→ApS ov (runR c v).1[i].outs.length ov'∧ApS sv (runR c v).1[i].state.length sv':=fun j c' hij hc' ov' sv' k e=>hBp i j _ _ c' hij (List.getElem?_eq_getElem hir) (List.getElem?_eq_getElem hii) hc' ov sv _ ov' sv' k ec e
    obtain⟨fo,fs⟩:=run_facts c v _ (List.getElem_mem hir)
    have hb1:BrM Oi (runR c v).1[i] [ov,.int .i64 (runR c v).1[i].bits,sv]:=⟨_,_,rfl,ho1,ho2⟩
    obtain⟨ovb',ovn',ovc',rfl⟩:=OwnS.sl ho1
    obtain⟨svb',svn',svc',rfl⟩:=OwnS.sl ho2
    obtain⟨lb,rfl,hlr⟩:=OwnS.rdN (H:=Hi) hli hii
    rw[ec] at hlr
    obtain⟨wb,woff,rfl,hwr⟩:=hra.rd hirr
    obtain⟨wo,ws,ew,wh1,wh2⟩:=hrb.2 i _ _ (List.getElem?_eq_getElem hir) (List.getElem?_eq_getElem hirr)
    rw[ew] at hwr
    have hbw:BrC Hi (runR c v).1[i] [wo,.int .i64 (runR c v).1[i].bits,ws]:=BrC.up ⟨_,_,rfl,wh1,wh2⟩ hsi
    obtain⟨wob,woc,rfl,_⟩:=id wh1
    obtain⟨wsb,wsc,rfl,_⟩:=id wh2
    conv=>whnf
    refine dec_intro (by omega) ?_
    conv=>whnf
    refine⟨_,hlr,?_⟩
    conv=>whnf
    intro b23
    conv=>whnf
    refine W_draw (pol:=polL) Γok mixes [(0,.pend),(1,.pendO),(2,.pendO),(3,.pendO),(4,.pendO),(5,.lock),(6,.lock),(7,.pendO)] 151 (by kernel_rfl) rfl ?_
    conv=>whnf
    refine dec_intro (by omega) ?_
    conv=>whnf
    refine⟨_,hwr _ _ hsi,?_⟩
    conv=>whnf
    refine (d20 _ _ _ ⟨_,_,_,rfl⟩ ⟨_,_,rfl⟩ ⟨_,_,_,rfl⟩ _).val fun Hj sj=>?_
    conv=>whnf
    refine (d19o fo fs hb1 (hbw.up sj)).mono fun r Hk Ok sk hr=>?_
    obtain⟨rfl,hOk⟩:=hr
    replace hli:=OwnS.upS hli hOk
    replace hbi:=fun j b c' h0 h1 h2=>(hbi j b c' h0 h1 h2).up hOk
    replace hai:=hai.up hOk
    replace ho1:=OwnS.upS ho1 hOk
    replace ho2:=OwnS.upS ho2 hOk
    conv=>whnf
    refine OwnS.clear ho2 rfl (by simp[Value.oneCell']) fun O1 hk1=>?_
    replace hli:=OwnS.kept hli (ap_type ho2 hli (by decide)) hk1
    replace hai:=hai.clearS ho2 (fun ov' sv' k e=>by cases e;exact hx2.2) hk1
    have hbi2:∀ (j:Nat) b c',i+1≤j→(runR c v).1[j]?=some b→cs[j]?=some c'→BrM O1 b c':=fun j b c' h0 h1 h2=>(hbi j b c' (by omega) h1 h2).clearS ho2 (fun ov' sv' k e=>(hpp j c' h0 h2 ov' sv' k e).2) hk1
    replace ho1:=OwnS.kept ho1 (ap_type ho2 ho1 (by decide)) hk1
    conv=>whnf
    refine OwnS.clear ho1 rfl (by simp[Value.oneCell']) fun O2 hk2=>?_
    replace hli:=OwnS.kept hli (ap_type ho1 hli (by decide)) hk2
    replace hai:=hai.clearO ho1 (fun ov' sv' k e=>by cases e;exact hx1.1) hk2
    have hbi3:∀ (j:Nat) b c',i+1≤j→(runR c v).1[j]?=some b→cs[j]?=some c'→BrM O2 b c':=fun j b c' h0 h1 h2=>(hbi2 j b c' h0 h1 h2).clearO ho1 (fun ov' sv' k e=>(hpp j c' h0 h2 ov' sv' k e).1) hk2
    conv=>whnf
    refine⟨(i+1,Hk,O2),⟨hii,hsi.trans (sj.trans sk),hli,hbi3,hai⟩,by dsimp only;omega,?_⟩
    refine⟨rfl,rfl,?_⟩
    conv=>whnf
    repeat (refine⟨rfl,?_⟩;conv=>whnf)
    refine⟨by show En.v (.int .i64 (IntKind.i64.wrap (i+1)))=_;rw[wrap_id (by omega) (by omega)]<;>rfl,?_⟩
    conv=>whnf
    repeat (refine⟨rfl,?_⟩;conv=>whnf)
    exact trivial
  have hii:i=cs.length:=by
    have:=of_decide_eq_false hci
    omega
  obtain⟨_,_,e,z1,z2⟩:=hai
  cases e
  have tl:=hsi
  replace hG:=GlobH.up hG tl
  replace hc:=GatesH.up hc tl
  replace hy:=NumH.up hy tl
  replace hz:=IntsC.up hz tl
  replace hx:=GatesH.up hx tl
  replace cy:=NumH.up cy tl
  replace cz:=IntsC.up cz tl
  replace hra:=RecsH.up hra tl
  replace hrb:=BrsC.up hrb tl
  replace hone:=BrC.up hone tl
  replace hba:=NumH.up hba tl
  replace hbb:=NumH.up hbb tl
  dsimp only[litK,setK]
  refine codeK_exit ?_
  dsimp only[]
  rw[if_pos rfl]
  refine seq_stop fun K1 hK1=>?_
  conv=>whnf
  refine OwnS.clear z2 rfl (by simp[Value.oneCell']) fun O1 hk1=>?_
  replace z1:=OwnS.kept z1 (ap_type z2 z1 (by decide)) hk1
  conv=>whnf
  rw[← hK1]
  clear hK1 K1
  refine seq_stop fun K1 hK1=>?_
  conv=>whnf
  refine OwnS.clear z1 rfl (by simp[Value.oneCell']) fun O2 hk2=>?_
  conv=>whnf
  rw[← hK1]
  clear hK1 K1
  conv=>whnf
  refine (d22t c fc _ _ _ ⟨_,rfl,hx⟩ ⟨_,rfl,hc⟩).val fun H22 s22=>?_
  have t22:=s22
  replace hG:=GlobH.up hG t22
  replace hc:=GatesH.up hc t22
  replace hy:=NumH.up hy t22
  replace hz:=IntsC.up hz t22
  replace hx:=GatesH.up hx t22
  replace cy:=NumH.up cy t22
  replace cz:=IntsC.up cz t22
  replace hra:=RecsH.up hra t22
  replace hrb:=BrsC.up hrb t22
  replace hone:=BrC.up hone t22
  replace hba:=NumH.up hba t22
  replace hbb:=NumH.up hbb t22
  conv=>whnf
  refine (c48t v v (eqL_refl _) hv0 _ _ _ cy hy).val fun H23 s23=>?_
  have t23:=s23
  replace hG:=GlobH.up hG t23
  replace hc:=GatesH.up hc t23
  replace hy:=NumH.up hy t23
  replace hz:=IntsC.up hz t23
  replace hx:=GatesH.up hx t23
  replace cy:=NumH.up cy t23
  replace cz:=IntsC.up cz t23
  replace hra:=RecsH.up hra t23
  replace hrb:=BrsC.up hrb t23
  replace hone:=BrC.up hone t23
  replace hba:=NumH.up hba t23
  replace hbb:=NumH.up hbb t23
  conv=>whnf
  refine (c25t l l rfl (by omega) _ _ _ cz.h hz.h).val fun H24 s24=>?_
  have t24:=s24
  replace hG:=GlobH.up hG t24
  replace hc:=GatesH.up hc t24
  replace hy:=NumH.up hy t24
  replace hz:=IntsC.up hz t24
  replace hx:=GatesH.up hx t24
  replace cy:=NumH.up cy t24
  replace cz:=IntsC.up cz t24
  replace hra:=RecsH.up hra t24
  replace hrb:=BrsC.up hrb t24
  replace hone:=BrC.up hone t24
  replace hba:=NumH.up hba t24
  replace hbb:=NumH.up hbb t24
  conv=>whnf
  refine (d9 _ hG).val fun H25 s25=>?_
  have t25:=s25
  replace hG:=GlobH.up hG t25
  replace hc:=GatesH.up hc t25
  replace hy:=NumH.up hy t25
  replace hz:=IntsC.up hz t25
  replace hx:=GatesH.up hx t25
  replace cy:=NumH.up cy t25
  replace cz:=IntsC.up cz t25
  replace hra:=RecsH.up hra t25
  replace hrb:=BrsC.up hrb t25
  replace hone:=BrC.up hone t25
  replace hba:=NumH.up hba t25
  replace hbb:=NumH.up hbb t25
  conv=>whnf
end Go.Proofs.YtmhnalikebkhjaaGreatDoor

namespace Go.Proofs.YtmhnalikebkhjaaGreatDoor
open Go.Proofs.YtmhnalikebkhjaaGreatDoor.X Go.Proofs.YtmhnalikebkhjaaGreatDoor.X.PH
set_option maxRecDepth 100000
theorem append_many' {H O : PH} {t:TypeId} {sz by_:Nat} {z:List Value} {s x:Value} {K:Value→PH→Prop} {xs ys:List (List Value)} (hs:OwnS O sz t s xs) (hz:z.length=sz) (hys:∀ y∈ys,y.length=sz) (hone:∀ v∈ys.flatten,v.oneCell'=true)
    (hx:∃ src cap,x=.slice src ys.length cap∧(src=none→ys=[])∧∀ a,src=some a→0 < ys.length→Rd H O a (ys.length*sz) ys.flatten) (hb:(xs.length+ys.length)*(by_+1)≤140737488355328)
    (k:∀ v O',OwnS O' sz t v (xs++ys)→(∀ n o,O n=some o→(∀ cap,s ≠ .slice (some ⟨n,0,none⟩) xs.length cap)→O' n=some o)→K v O'):appendK H O t sz by_ z s x K:=by
  obtain⟨src,capx,rfl,hsrc,hrd⟩:=hx
  obtain⟨hlen,hs⟩:=hs
  have hfl:=flat_length hlen
  have hfy:=flat_length hys
  have hlen':∀ x∈xs++ys,x.length=sz:=by
    intro x hx
    rcases List.mem_append.1 hx with h | h
    · exact hlen x h
    · exact hys x h
  have hfl':(xs++ys).flatten=xs.flatten++ys.flatten:=by simp
  have hnil:ys.length=0→ys=[]:=by simp
  unfold appendK
  have key:∀ (b:Nat) (cap:Nat),H b=none→O b=none→xs.length+ys.length≤cap→K (.slice (some ⟨b,0,none⟩) (xs.length+ys.length) cap) (ins O b (.cells ⟨xs.flatten++ys.flatten++(List.replicate (cap - (xs.length+ys.length)) z).flatten⟩ t (0,0))):=by
    intro b cap hb1 hb2 hcap
    refine k _ _ ⟨hlen',.inr ⟨b,cap,(List.replicate (cap - (xs.length+ys.length)) z).flatten,by simp,by rw[ins_same,hfl'],by simpa using hcap,?_⟩⟩ (fun n o hn _=>(ins_ne _ _ fun e=>by rw[e,hb2] at hn;cases hn).trans hn)
    · rw[List.length_flatten];simp[hz]
  have same:∀ v,ys.length=0→OwnS O sz t v xs→K v O:=by
    intro v h0 h
    have:=hnil h0
    subst this
    exact k v O (by simpa using h) (fun n o h1 _=>h1)
  rcases hs with⟨rfl,rfl⟩ | ⟨b,cap,spare,rfl,hO,hcap,hsp⟩
  · refine⟨none,0,0,src,ys.length,capx,ys.flatten,rfl,rfl,hfy,hone,fun h=>by rw[hsrc h]<;>rfl,hrd,by simpa using hb,hz,fun h0 _=>same _ h0 ⟨by simp,.inl ⟨rfl,rfl⟩⟩,fun _ h=>by omega,fun _=>⟨[],by simp,fun _=>rfl,(fun a h=>by cases h),fun b cap h1 h2 h3=>?_⟩⟩
    have:=key b cap h1 h2 (by simpa using h3)
    simpa using this
  · refine⟨some ⟨b,0,none⟩,xs.length,cap,src,ys.length,capx,ys.flatten,rfl,rfl,hfy,hone,fun h=>by rw[hsrc h]<;>rfl,hrd,hb,hz,fun h0 _=>same _ h0 ⟨hlen,.inr ⟨b,cap,spare,rfl,hO,hcap,hsp⟩⟩,fun _ h=>⟨b,0,_,t,rfl,hO,?_,?_⟩,fun h=>⟨xs.flatten,hfl,(fun h=>by cases h),fun a ha=>?_,fun b' cap' h1 h2 h3=>key b' cap' h1 h2 h3⟩⟩
    · rw[List.length_append,hfl,hsp,Nat.zero_add,← Nat.add_mul,← Nat.add_mul]
      exact Nat.mul_le_mul_right _ (by omega)
    · have e1:(xs.flatten++spare).take (0+xs.length*sz)=xs.flatten:=by rw[Nat.zero_add,← hfl];simp
      have e2:(xs.flatten++spare).drop (0+xs.length*sz+ys.length*sz)=spare.drop (ys.length*sz):=by
        rw[Nat.zero_add,← List.drop_drop,← hfl];simp
      rw[e1,e2]
      refine k _ _ ⟨hlen',.inr ⟨b,cap,spare.drop (ys.length*sz),by simp,by rw[ins_same,hfl'],by simpa using h,?_⟩⟩ (fun n o hn hne=>(ins_ne _ _ fun e=>hne cap (by rw[e])).trans hn)
      · rw[List.length_drop,hsp,List.length_append,← Nat.sub_mul]
        congr 1
        omega
    · cases ha
      refine⟨rfl,hfl,_,t,(0,0),.inr hO,?_⟩
      dsimp only
      rw[List.drop_zero,← hfl]
      simp
theorem OwnS.other {O : PH} {sz:Nat} {t t':TypeId} {v:Value} {xs:List (List Value)} {b:Nat} {c:List Value} {o:Obj} (h:OwnS O sz t v xs) (hb:O b=some (.cells ⟨c⟩ t' (0,0))) (ht:t' ≠ t):OwnS (ins O b o) sz t v xs:=by
  obtain⟨h1,h2⟩:=h
  refine⟨h1,?_⟩
  rcases h2 with h2 | ⟨b',cap,sp,e,ho,q⟩
  · exact .inl h2
  · refine .inr ⟨b',cap,sp,e,(ins_ne _ _ fun e=>?_).trans ho,q⟩
    rw[e,hb] at ho
    cases ho
    exact ht rfl
theorem OwnS.recsU {H O : PH} {sz:Nat} {t:TypeId} {v:Value} {cs:List (List Value)} (h:OwnS O sz t v cs) (hd:Dis H O):RecsH (un H O) sz v cs:=by
  obtain⟨h1,h2⟩:=h
  rcases h2 with⟨e,h⟩ | ⟨b',cap,sp,e,ho,q⟩
  · subst h
    exact⟨h1,none,0,e,.inl ⟨rfl,rfl⟩⟩
  · refine⟨h1,_,cap,e,.inr ⟨b',0,_,_,_,rfl,un_right hd ho,?_⟩⟩
    simp
theorem num_nil (H : PH):NumH H (.slice none 0 0) []:=⟨_,_,rfl,.inl ⟨rfl,rfl⟩⟩
def isI (x : Value):Prop:=∃ y,x=.int .i64 y
def isJ (x : Value):Prop:=∃ j:Nat,x=.int .i64 (j:Int)∧j < 3
theorem OwnS.neq {O : PH} {sz:Nat} {t t':TypeId} {v:Value} {xs:List (List Value)} {b:Nat} {c:List Value} (h:OwnS O sz t v xs) (hb:O b=some (.cells ⟨c⟩ t' (0,0))) (ht:t' ≠ t):∀ cap,v ≠ .slice (some ⟨b,0,none⟩) xs.length cap:=by
  intro cap e
  obtain⟨h1,h2⟩:=h
  rcases h2 with⟨h2,_⟩ | ⟨b',cap',sp,e',ho,q⟩
  · rw[h2] at e;cases e
  · rw[e'] at e
    cases e
    rw[ho] at hb
    cases hb
    exact ht rfl
theorem tmod3 (k : Nat):isJ (.int .i64 ((k:Int).tmod 3)):=⟨k % 3,by rw[Int.tmod_eq_emod_of_nonneg (by omega)]<;>rfl,Nat.mod_lt _ (by decide)⟩
theorem rep_ints (n : Nat):(List.replicate n [Value.int .i64 0]).flatten=(List.replicate n (0:Int)).map fun x=>.int .i64 x:=by
  rw[List.flatten_replicate_singleton,List.map_replicate]
theorem ints_set : ∀ (l:List Int) (i:Nat) (y:Int),i < l.length→(l.map fun x=>Value.int .i64 x).take (0+i*1)++[.int .i64 y]++(l.map fun x=>Value.int .i64 x).drop (0+i*1+1)=(l.set i y).map fun x=>.int .i64 x:=by
  intro l i y h
  rw[Nat.zero_add,Nat.mul_one,List.map_set,List.set_eq_take_append_cons_drop,if_pos (by rw[List.length_map];exact h)]
  simp
def GB (b7 n : Nat) (v:Value) (gs:List Gt) (cs:List (List Value)) (H O:PH):Prop:=O b7=some (.cells ⟨[.int .i64 2,.int .i64 2,v]⟩ 24 (0,0))∧OwnS O 4 57 v cs∧GatesC H gs cs∧gs.length=3*n
theorem GB.up {b7 n : Nat} {v:Value} {gs:List Gt} {cs:List (List Value)} {H H' O O':PH} (h:GB b7 n v gs cs H O) (hs:Sub H H') (ho:Sub O O'):GB b7 n v gs cs H' O':=⟨ho _ _ h.1,OwnS.upS h.2.1 ho,h.2.2.1.up hs,h.2.2.2⟩
theorem GB.gates {b7 n : Nat} {v:Value} {gs:List Gt} {cs:List (List Value)} {H O:PH} (h:GB b7 n v gs cs H O) (hd:Dis H O):GatesH (un H O) v gs:=(h.2.2.1.up (un_left H O)).gates (OwnS.recsU h.2.1 hd)
def t3 (H : PH) (b:Nat):Prop:=∃ y1 y2 y3,H b=some (.cells ⟨[.int .i64 y1,.int .i64 y2,.int .i64 y3]⟩ 3 (0,0))
def sl1 (H : PH) (x:Value):Prop:=∃ b y,x=sl b 1∧i1 H b y
def sl3 (H : PH) (x:Value):Prop:=∃ b,x=sl b 3∧t3 H b
def pt3 (H : PH) (x:Value):Prop:=∃ b j,x=.pointer (some ⟨b,j,none⟩)∧j < 3∧t3 H b
def rc4 (H : PH) (x:Value):Prop:=∃ a b y c d,x=.agg ⟨[.int .i64 a,sl b 1,.int .i64 c,.int .i64 d]⟩∧i1 H b y
def sl57 (H : PH) (x:Value):Prop:=∃ b g1 g2 g3 c1 c2 c3,x=sl b 3∧H b=some (.cells ⟨[c1,c2,c3].flatten⟩ 57 (0,0))∧GateC H g1 c1∧GateC H g2 c2∧GateC H g3 c3
theorem t3.up {H H' : PH} {b:Nat} (h:t3 H b) (hs:Sub H H'):t3 H' b:=by
  obtain⟨y1,y2,y3,h⟩:=h
  exact⟨y1,y2,y3,hs _ _ h⟩
theorem sl1.up {H H' : PH} {x:Value} (h:sl1 H x) (hs:Sub H H'):sl1 H' x:=by
  obtain⟨b,y,e,h⟩:=h
  exact⟨b,y,e,hs _ _ h⟩
theorem sl3.up {H H' : PH} {x:Value} (h:sl3 H x) (hs:Sub H H'):sl3 H' x:=by
  obtain⟨b,e,h⟩:=h
  exact⟨b,e,h.up hs⟩
theorem pt3.up {H H' : PH} {x:Value} (h:pt3 H x) (hs:Sub H H'):pt3 H' x:=by
  obtain⟨b,j,e,hj,h⟩:=h
  exact⟨b,j,e,hj,h.up hs⟩
theorem rc4.up {H H' : PH} {x:Value} (h:rc4 H x) (hs:Sub H H'):rc4 H' x:=by
  obtain⟨a,b,y,c,d,e,h⟩:=h
  exact⟨a,b,y,c,d,e,hs _ _ h⟩
theorem sl57.up {H H' : PH} {x:Value} (h:sl57 H x) (hs:Sub H H'):sl57 H' x:=by
  obtain⟨b,g1,g2,g3,c1,c2,c3,e,h,h1,h2,h3⟩:=h
  exact⟨b,g1,g2,g3,c1,c2,c3,e,hs _ _ h,h1.up hs,h2.up hs,h3.up hs⟩
def SMq (b7 k : Nat) (gs:Value) (gl:List Gt) (cs:List (List Value)):Nat→Value→PH→PH→Prop
  | 0,x,_,_=>x=.pointer (some ⟨b7,2,none⟩)
  | 1,x,_,_=>x=gs
  | 2,x,_,_=>x=.int .i64 (k:Int)
  | 3,x,_,_=>isI x
  | 4,x,H,_=>sl1 H x
  | 5,x,H,_=>rc4 H x
  | 6,x,H,_=>sl3 H x
  | 7,x,_,_=>x=.int .i64 (k:Int)
  | 8,x,_,_=>isJ x
  | 9,x,H,_=>pt3 H x
  | 10,x,_,_=>isI x
  | 11,x,_,_=>x=.int .i64 (k:Int)
  | 12,x,_,_=>isI x
  | 13,x,H,_=>sl1 H x
  | 14,x,_,_=>x=.int .i64 (k:Int)
  | 15,x,_,_=>isI x
  | 16,x,H,_=>sl3 H x
  | 17,x,_,_=>x=.int .i64 (k:Int)
  | 18,x,_,_=>isJ x
  | 19,x,H,_=>pt3 H x
  | 20,x,_,_=>isI x
  | 21,x,H,_=>rc4 H x
  | 22,x,_,_=>x=.int .i64 (k:Int)
  | 23,x,_,_=>isI x
  | 24,x,_,_=>isI x
  | 25,x,H,_=>sl1 H x
  | 26,x,_,_=>x=.int .i64 (k:Int)
  | 27,x,_,_=>isI x
  | 28,x,H,_=>rc4 H x
  | 29,x,H,_=>sl57 H x
  | 30,x,H,O=>∃ gl' cs',gl'.length=3∧OwnS O 4 57 x (cs++cs')∧GatesC H (gl++gl') (cs++cs')
  | 31,x,_,_=>x=.pointer (some ⟨b7,2,none⟩)
  | 32,x,H,O=>∃ v gl' cs',gl'.length=3∧O b7=some (.cells ⟨[.int .i64 2,.int .i64 2,v]⟩ 24 (0,0))∧OwnS O 4 57 v (cs++cs')∧GatesC H (gl++gl') (cs++cs')
  | _,_,_,_=>True
theorem SMq.up {b7 k : Nat} {gs:Value} {gl:List Gt} {cs:List (List Value)} {i:Nat} {x:Value} {H H' O:PH} (h:SMq b7 k gs gl cs i x H O) (hs:Sub H H'):SMq b7 k gs gl cs i x H' O:=by
  unfold SMq at *
  split at h
  all_goals first
    | exact h
    | exact sl1.up h hs
    | exact sl3.up h hs
    | exact pt3.up h hs
    | exact rc4.up h hs
    | exact sl57.up h hs
    | (obtain⟨gl',cs',h1,h2,h3⟩:=h;exact⟨gl',cs',h1,h2,h3.up hs⟩)
    | (obtain⟨v,gl',cs',h1,h2,h3,h4⟩:=h;exact⟨v,gl',cs',h1,h2,h3,h4.up hs⟩)
theorem SMq.o {b7 k : Nat} {gs:Value} {gl:List Gt} {cs:List (List Value)} {i:Nat} {x:Value} {H O O':PH} (h:SMq b7 k gs gl cs i x H O) (h7:i ≠ 30) (h9:i ≠ 32):SMq b7 k gs gl cs i x H O':=by
  unfold SMq at *
  split at h
  all_goals first
    | exact h
    | exact absurd rfl h7
    | exact absurd rfl h9
structure SM (H0 : PH) (b7 k:Nat) (gs:Value) (gl:List Gt) (cs:List (List Value)) (L:Nat→Bool) (V:Nat→Value) (H O:PH):Prop where
  sub:Sub H0 H
  old:L 32=false→O b7=some (.cells ⟨[.int .i64 2,.int .i64 2,gs]⟩ 24 (0,0))
  own:L 30=false→OwnS O 4 57 gs cs
  sp:∀ i,L i=true→SMq b7 k gs gl cs i (V i) H O
  c30:L 30=true→L 1=true
  c32:L 32=true→L 30=true
theorem SM.step {H0 : PH} {b7 k:Nat} {gs:Value} {gl:List Gt} {cs:List (List Value)} {L:Nat→Bool} {V:Nat→Value} {H O H':PH} (h:SM H0 b7 k gs gl cs L V H O) {i:Nat} {v:Value} (hs:Sub H H') (h9:i ≠ 32) (h7:i ≠ 30) (hv:SMq b7 k gs gl cs i v H' O):SM H0 b7 k gs gl cs (setL L i) (setV V i v) H' O:=by
  refine⟨h.sub.trans hs,fun h'=>h.old ?_,fun h'=>h.own ?_,fun k hk=>?_,?_,?_⟩
  · unfold setL at h'
    cases e:L 32 with
    | false=>rfl
    | true=>rw[e] at h';simp at h'
  · unfold setL at h'
    cases e:L 30 with
    | false=>rfl
    | true=>rw[e] at h';simp at h'
  · by_cases e:k=i
    · subst e
      simp only[setV,beq_self_eq_true,cond_true]
      exact hv
    · have e2:(k == i)=false:=by simpa using e
      simp only[setV,e2,cond_false]
      simp only[setL,e2,Bool.false_or] at hk
      exact (h.sp k hk).up hs
  · intro h'
    simp only[setL] at h' ⊢
    rw[beq_eq_false_iff_ne.2 (Ne.symm h7),Bool.false_or] at h'
    rw[h.c30 h',Bool.or_true]
  · intro h'
    simp only[setL] at h' ⊢
    rw[beq_eq_false_iff_ne.2 (Ne.symm h9),Bool.false_or] at h'
    rw[h.c32 h',Bool.or_true]
theorem gates_nil' (H : PH):GatesH H (.slice none 0 0) []:=⟨[],rfl,⟨fun _ h=>(by cases h),⟨_,_,rfl,.inl ⟨rfl,rfl⟩⟩⟩,fun i g c h=>(by cases h)⟩
theorem d3o {b7 n : Nat} {v:Value} {gs:List Gt} {cs:List (List Value)} {H O:PH} {u:Vec} {y z:Value} {l:List Int} (hn:n≤100) (hG:GlobH H) (hg:GB b7 n v gs cs H O) (hu:u.length < 9223372036854775808) (hy:NumH H y u) (hz:Dis H O→IntsC (un H O) z l):Cl Tryz.prog 3 [.agg ⟨[.int .i64 2,.int .i64 2,v]⟩,y,z] H O fun r _ O'=>r=.bool true∧Sub O O':=
  (Cl.share' (d3 ⟨2,2,[]⟩ [] [] (by simp) (by simp) H _ _ _ hG (gates_nil' H) (num_nil H) (IntsC.nil H)).ent fun hd=>
    d3 ⟨2,2,gs⟩ u l (by have:=hg.2.2.2;dsimp only;omega) hu (un H O) v y z (GlobH.up hG (un_left H O)) (hg.gates hd) (NumH.up hy (un_left H O)) (hz hd)).mono fun r H' O' _ h=>⟨h.2,h.1⟩
theorem d5o {b7 n : Nat} {v:Value} {gs:List Gt} {cs:List (List Value)} {H O:PH} {a b:Int} (hn:n≤100) (hG:GlobH H) (hg:GB b7 n v gs cs H O):Cl Tryz.prog 5 [.agg ⟨[.int .i64 2,.int .i64 2,v]⟩,.agg ⟨[.int .i64 2,.int .i64 2,v]⟩,.int .i64 a,.int .i64 b] H O fun r _ O'=>r=.bool true∧Sub O O':=
  (Cl.share' (d5 ⟨2,2,[]⟩ ⟨2,2,[]⟩ 0 0 (by simp) (by simp) H _ _ hG (gates_nil' H) (gates_nil' H)).ent fun hd=>
    d5 ⟨2,2,gs⟩ ⟨2,2,gs⟩ a b (by have:=hg.2.2.2;dsimp only;omega) (by have:=hg.2.2.2;dsimp only;omega) (un H O) v v (GlobH.up hG (un_left H O)) (hg.gates hd) (hg.gates hd)).mono fun r H' O' _ h=>⟨h.2,h.1⟩
theorem parts_all (O : PH):Parts O O emp:=⟨fun n=>by unfold un;cases O n<;>rfl,fun n=>.inr rfl⟩
theorem d3s {v : Value} {gs:List Gt} {H O:PH} {u:Vec} {y z:Value} {l:List Int} (hl:gs.length < 9223372036854775808) (hG:GlobH H) (hg:GatesH H v gs) (hu:u.length < 9223372036854775808) (hy:NumH H y u) (hz:Dis H O→IntsC (un H O) z l):Cl Tryz.prog 3 [.agg ⟨[.int .i64 2,.int .i64 2,v]⟩,y,z] H O fun r _ O'=>r=.bool true∧Sub O O':=
  (Cl.share' (d3 ⟨2,2,[]⟩ [] [] (by simp) (by simp) H _ _ _ hG (gates_nil' H) (num_nil H) (IntsC.nil H)).ent fun hd=>
    d3 ⟨2,2,gs⟩ u l hl hu (un H O) v y z (GlobH.up hG (un_left H O)) (GatesH.up hg (un_left H O)) (NumH.up hy (un_left H O)) (hz hd)).mono fun r H' O' _ h=>⟨h.2,h.1⟩
theorem GB.other {b7 n : Nat} {v:Value} {gs:List Gt} {cs:List (List Value)} {H O:PH} {b:Nat} {c:List Value} {o:Obj} (h:GB b7 n v gs cs H O) (hb:O b=some (.cells ⟨c⟩ 3 (0,0))):GB b7 n v gs cs H (ins O b o):=by
  refine⟨(ins_ne _ _ fun e=>?_).trans h.1,OwnS.other h.2.1 hb (by decide),h.2.2⟩
  rw[← e,h.1] at hb
  cases hb
end Go.Proofs.YtmhnalikebkhjaaGreatDoor

namespace Go.Proofs.YtmhnalikebkhjaaGreatDoor
open Go.Proofs.YtmhnalikebkhjaaGreatDoor.X Go.Proofs.YtmhnalikebkhjaaGreatDoor.X.PH
set_option maxRecDepth 100000
def polSm : Tmp→Pol:=fun | 36=>.imm | 60=>.imm | 62=>.imm | 69=>.imm | 71=>.imm | 81=>.imm | 95=>.imm | 118=>.imm | 120=>.imm | 127=>.imm | 130=>.imm | 139=>.imm | 143=>.imm | 179=>.imm | 184=>.imm | 237=>.imm | 260=>.imm | 270=>.imm | 276=>.imm | 281=>.imm | 288=>.imm | 296=>.imm | 301=>.imm | 322=>.imm | 331=>.imm | 362=>.imm | 7=>.own | 11=>.own | 148=>.own | 144=>.own | 211=>.own | _=>.loc
theorem pre_ints {H : PH} {b:Nat} {l:List Int} {n cap:Nat} {fr:Nat × Nat} (hb:H b=some (.cells ⟨l.map fun x=>.int .i64 x⟩ 3 fr)) (hn:n≤l.length) (hc:n≤cap):IntsC H (.slice (some ⟨b,0,none⟩) n cap) (l.take n):=by
  refine⟨_,_,by rw[List.length_take,Nat.min_eq_left hn],by rw[List.length_take,Nat.min_eq_left hn];exact hc,⟨_,_,by rw[List.length_take,Nat.min_eq_left hn],.inr ⟨b,0,_,_,_,rfl,hb,?_⟩⟩⟩
  rw[List.drop_zero,List.length_map,List.length_take,Nat.min_eq_left hn,List.map_take]
theorem gates4 {H : PH} {b cap:Nat} {t:TypeId} {fr:Nat × Nat} {g1 g2 g3 g4:Gt} {w1 w2 w3 w4:Value} (hb:H b=some (.cells ⟨[.int .i64 g1.kind,w1,.int .i64 g1.bit,.int .i64 g1.cond,.int .i64 g2.kind,w2,.int .i64 g2.bit,.int .i64 g2.cond,.int .i64 g3.kind,w3,.int .i64 g3.bit,.int .i64 g3.cond,.int .i64 g4.kind,w4,.int .i64 g4.bit,.int .i64 g4.cond]⟩ t fr)) (h1:IntsC H w1 g1.ws) (h2:IntsC H w2 g2.ws) (h3:IntsC H w3 g3.ws) (h4:IntsC H w4 g4.ws):GatesH H (.slice (some ⟨b,0,none⟩) 4 cap) [g1,g2,g3,g4]:=
  gates_of [[.int .i64 g1.kind,w1,.int .i64 g1.bit,.int .i64 g1.cond],[.int .i64 g2.kind,w2,.int .i64 g2.bit,.int .i64 g2.cond],[.int .i64 g3.kind,w3,.int .i64 g3.bit,.int .i64 g3.cond],[.int .i64 g4.kind,w4,.int .i64 g4.bit,.int .i64 g4.cond]] [] (by simpa using hb) rfl rfl fun i g c hg hc=>by
    match i with
    | 0=>cases hg;cases hc;exact⟨_,rfl,h1⟩
    | 1=>cases hg;cases hc;exact⟨_,rfl,h2⟩
    | 2=>cases hg;cases hc;exact⟨_,rfl,h3⟩
    | 3=>cases hg;cases hc;exact⟨_,rfl,h4⟩
theorem ints_c1 {H : PH} {b:Nat} {x:Int} {fr:Nat × Nat} (hb:H b=some (.cells ⟨[.int .i64 x]⟩ 3 fr)):IntsC H (sl b 1) [x]:=ints_c (l:=[x]) hb
theorem tmod2 (x : Int) (h:0≤x):∃ j:Nat,x.tmod 2=(j:Int)∧j≤1:=by
  refine⟨(x.tmod 2).toNat,?_,?_⟩<;>rw[Int.tmod_eq_emod_of_nonneg h]<;>omega
theorem d50any (k : Int) (H:PH):Cl Tryz.prog 50 [.int .i64 k] H emp fun r _ _=>∃ a,r=.int .i64 a:=by
  refine Cl_of (pol:=(fun | 2=>.imm | _=>.loc)) Γok Tryz.func50 (by kernel_rfl) rfl ?_
  conv=>whnf
  iterate 8
    all_goals first
      | exact⟨_,rfl⟩
      | (refine if_intro (fun _=>?_) (fun _=>?_)<;>conv=>whnf)
theorem clamp3 (a : Int):∃ j:Nat,(if (if a < 3 then a else 3) > 1 then (if a < 3 then a else 3) else 1)=(j:Int)∧1≤j∧j≤3:=by
  refine⟨(if (if a < 3 then a else 3) > 1 then (if a < 3 then a else 3) else 1).toNat,?_,?_,?_⟩<;>split<;>(try split)<;>omega
theorem basis2 (k : Int):(basisI 2 k).1.length < 9223372036854775808:=basis_short 2 k
theorem num_sl {H : PH} {b n:Nat} {l:Vec} (hb:H b=some (.cells ⟨cellsN l⟩ 32 (0,0))) (hn:n=l.length:=by rfl):NumH H (.slice (some ⟨b,0,none⟩) n n) l:=by
  subst hn
  refine⟨_,_,rfl,.inr ⟨b,0,_,_,_,rfl,hb,?_⟩⟩
  rw[List.drop_zero]
  exact List.take_of_length_le (by simp)
theorem publishG {f : FuncId} {args:List Value} {H M:PH} {Q:Value→PH→PH→Prop} (b:Nat) (o:Obj) (hb:M b=some o) (h:∀ M',Cl Tryz.prog f args (ins H b o) M' Q):Cl Tryz.prog f args H M Q:=Cl.publish b o hb (h _)
theorem at_nums {L : Vec} {i:Nat} {K:List Value→Prop} (hi:i < L.length) (h:∀ x,K (cellsOf x)):dropK (cellsN L) (0+((i:Nat):Int).toNat*5) fun cs=>takeK cs 5 K:=by
  refine dropK_iff.2 ⟨?_,takeK_iff.2 ⟨?_,?_⟩⟩
  · rw[cellsN_length,Int.toNat_natCast]
    omega
  · rw[List.length_drop,cellsN_length,Int.toNat_natCast]
    omega
  · rw[Int.toNat_natCast,cellsN_at hi]
    exact h _
theorem at_ints {L : List Int} {i:Nat} {K:List Value→Prop} (hi:i < L.length) (h:∀ x,K [.int .i64 x]):dropK (L.map fun x=>Value.int .i64 x) (0+((i:Nat):Int).toNat*1) fun cs=>takeK cs 1 K:=by
  have e:((L.map fun x=>Value.int .i64 x).drop (0+i*1)).take 1=[.int .i64 L[i]]:=by
    rw[Nat.zero_add,Nat.mul_one,← List.map_drop,← List.map_take,List.drop_eq_getElem_cons hi]
    rfl
  refine dropK_iff.2 ⟨?_,takeK_iff.2 ⟨?_,?_⟩⟩
  · rw[List.length_map,Int.toNat_natCast]
    omega
  · rw[List.length_drop,List.length_map,Int.toNat_natCast]
    omega
  · rw[Int.toNat_natCast,e]
    exact h _
theorem gates_nil (H : PH):GatesH H (.slice none 0 0) []:=⟨[],rfl,⟨fun _ h=>(by cases h),⟨_,_,rfl,.inl ⟨rfl,rfl⟩⟩⟩,fun i g c h=>(by cases h)⟩
theorem basis3 (k : Int):(basisI 3 k).1.length < 9223372036854775808:=basis_short 3 k
set_option maxHeartbeats 32000000 in
theorem d7 (H : PH) (hG:GlobH H):Cl Tryz.prog 7 [] H emp fun r _ _=>r=.bool true:=by
  refine Cl_of (pol:=polSm) Γok Tryz.func7 (by kernel_rfl) rfl ?_
  conv=>whnf
  refine W_loop (pol:=polSm) Γok (Nat × PH) (fun z=>z.1≤18∧Sub H z.2) (fun z=>18 - z.1) (fun z=>[(1,.v (.int .i64 ((z.1:Int) - 1)))]) (fun _=>[]) (fun z=>z.2) (fun _=>emp) ⟨(0,H),⟨by simp,Sub.refl _⟩,rfl,rfl,?_⟩ ?_
  · conv=>whnf
    repeat (refine⟨rfl,?_⟩;conv=>whnf)
    exact trivial
  rintro ⟨i,Hi⟩ ⟨h1i,hsi⟩
  dsimp only at h1i hsi
  conv=>whnf
  refine if_intro (fun hci=>?_) (fun hci=>?_)
  · have hii:i < 18:=by
      have:=of_decide_eq_true hci
      omega
    obtain⟨kind,hkind⟩:∃ kind:Int,kind=(i:Int) - 1:=⟨_,rfl⟩
    rw[← hkind]
    conv=>whnf
    refine W_loop (pol:=polSm) Γok (Nat × PH) (fun z=>z.1≤27∧Sub Hi z.2) (fun z=>27 - z.1) (fun z=>[(26,.v (.int .i64 z.1))]) (fun _=>[]) (fun z=>z.2) (fun _=>emp) ⟨(0,Hi),⟨by simp,Sub.refl _⟩,rfl,rfl,?_⟩ ?_
    · conv=>whnf
      repeat (refine⟨rfl,?_⟩;conv=>whnf)
      exact trivial
    rintro ⟨n,Hn⟩ ⟨h1n,hsn⟩
    dsimp only at h1n hsn
    conv=>whnf
    refine if_intro (fun hcn=>?_) (fun hcn=>?_)
    · have hnn:n < 27:=by
        have:=of_decide_eq_true hcn
        omega
      replace hG:=hG.up (hsi.trans hsn)
      conv=>whnf
      intro b101 hb101 kb101
      conv=>whnf
      refine (d50any kind _).use fun r H200 s200 hr=>?_
      obtain⟨_,ar,rfl⟩:=hr
      have t200:=((sub_ins _ _ hb101).trans s200)
      replace hG:=GlobH.up hG t200
      replace hsn:=hsn.trans t200
      conv=>whnf
      obtain⟨j,hj,j1,j3⟩:=clamp3 ar
      rw[hj]
      refine dec_intro (by omega) ?_
      rw[slice_pre]
      have hw3:IntsC H200 (.slice (some ⟨b101,0,none⟩) j 3) _:=pre_ints (l:=[_,_,_]) (s200 _ _ (ins_same _ _ _)) (by simpa using j3) j3
      generalize hws:List.take j _=ws at hw3
      have hwl:ws.length≤3:=by rw[← hws,List.length_take];omega
      conv=>whnf
      refine (d41 3 _ _).use fun r H102 s102 hr=>?_
      obtain⟨_,bv,rfl,hbv⟩:=hr
      obtain⟨bvb,bvc,rfl,_⟩:=id hbv
      have t102:=s102
      replace hG:=GlobH.up hG t102
      replace hsn:=Sub.trans hsn t102
      replace hw3:=IntsC.up hw3 t102
      conv=>whnf
      refine (d51 kind _ ws _ hw3).val fun H103 s103=>?_
      have t103:=s103
      replace hG:=GlobH.up hG t103
      replace hsn:=Sub.trans hsn t103
      replace hw3:=IntsC.up hw3 t103
      replace hbv:=NumH.up hbv t103
      conv=>whnf
      refine (d4 _ ⟨kind,ws,0,0⟩ _ _ (basis3 _) (show ws.length < _ by omega) _ _ _ hG hbv hw3).val fun H104 s104=>?_
      have t104:=s104
      replace hG:=GlobH.up hG t104
      replace hsn:=Sub.trans hsn t104
      replace hw3:=IntsC.up hw3 t104
      replace hbv:=NumH.up hbv t104
      conv=>whnf
      intro b105 hb105 kb105
      conv=>whnf
      refine (d51 4 _ [_] _ (ints_c1 (ins_same _ _ _))).val fun H106 s106=>?_
      have t106:=((sub_ins _ _ hb105).trans s106)
      replace hG:=GlobH.up hG t106
      replace hsn:=Sub.trans hsn t106
      replace hw3:=IntsC.up hw3 t106
      replace hbv:=NumH.up hbv t106
      have ib105:=ints_c1 (s106 _ _ (ins_same _ _ _))
      conv=>whnf
      intro b107 hb107 kb107
      conv=>whnf
      refine (d51 7 _ [_] _ (ints_c1 (ins_same _ _ _))).val fun H108 s108=>?_
      have t108:=((sub_ins _ _ hb107).trans s108)
      replace hG:=GlobH.up hG t108
      replace hsn:=Sub.trans hsn t108
      replace hw3:=IntsC.up hw3 t108
      replace hbv:=NumH.up hbv t108
      replace ib105:=IntsC.up ib105 t108
      have ib107:=ints_c1 (s108 _ _ (ins_same _ _ _))
      conv=>whnf
      refine (d51 kind _ ws _ hw3).val fun H109 s109=>?_
      have t109:=s109
      replace hG:=GlobH.up hG t109
      replace hsn:=Sub.trans hsn t109
      replace hw3:=IntsC.up hw3 t109
      replace hbv:=NumH.up hbv t109
      replace ib105:=IntsC.up ib105 t109
      replace ib107:=IntsC.up ib107 t109
      conv=>whnf
      intro b110 hb110 kb110
      conv=>whnf
      refine (d51 4 _ [_] _ (ints_c1 (ins_same _ _ _))).val fun H111 s111=>?_
      have t111:=((sub_ins _ _ hb110).trans s111)
      replace hG:=GlobH.up hG t111
      replace hsn:=Sub.trans hsn t111
      replace hw3:=IntsC.up hw3 t111
      replace hbv:=NumH.up hbv t111
      replace ib105:=IntsC.up ib105 t111
      replace ib107:=IntsC.up ib107 t111
      have ib110:=ints_c1 (s111 _ _ (ins_same _ _ _))
      conv=>whnf
      intro b112 hb112 kb112
      conv=>whnf
      refine (d52 3 _ _ _ (gates4 (g1:=g1 4) (g2:=g1 7) (g3:=⟨kind,ws,0,0⟩) (g4:=⟨4,[_],0,0⟩) (ins_same _ _ _) (IntsC.up ib105 (sub_ins _ _ hb112)) (IntsC.up ib107 (sub_ins _ _ hb112)) (IntsC.up hw3 (sub_ins _ _ hb112)) (IntsC.up ib110 (sub_ins _ _ hb112)))).val fun H113 s113=>?_
      have t113:=((sub_ins _ _ hb112).trans s113)
      replace hG:=GlobH.up hG t113
      replace hsn:=Sub.trans hsn t113
      replace hw3:=IntsC.up hw3 t113
      replace hbv:=NumH.up hbv t113
      replace ib105:=IntsC.up ib105 t113
      replace ib107:=IntsC.up ib107 t113
      replace ib110:=IntsC.up ib110 t113
      have hgc:=gates4 (cap:=4) (g1:=g1 4) (g2:=g1 7) (g3:=⟨kind,ws,0,0⟩) (g4:=⟨4,[_],0,0⟩) (s113 _ _ (ins_same _ _ _)) ib105 ib107 hw3 ib110
      conv=>whnf
      intro b114
      conv=>whnf
      refine W_draw (pol:=polSm) Γok mixes [(0,.pendO),(1,.pendO),(2,.pendO),(3,.pendO),(4,.pend),(5,.pendO),(6,.pendO),(10,.pend),(11,.pend),(12,.pend),(13,.pend),(14,.pend),(7,.lock),(8,.lock),(9,.lock),(15,.lock),(16,.pendO),(17,.pendO),(18,.pendO),(19,.pendO),(20,.pendO),(21,.pendO),(23,.pendO),(24,.pendO),(25,.pendO),(22,.lock),(26,.pendO),(27,.lock),(28,.pendO),(29,.pendO),(30,.pendO)] 370 (by kernel_rfl) rfl ?_
      conv=>whnf
      refine if_intro (fun h4=>?_) (fun h4=>?_)
      rotate_left
      · conv=>whnf
        refine⟨(n+1,_),⟨hnn,hsn⟩,by dsimp only;omega,?_⟩
        refine⟨rfl,rfl,?_⟩
        conv=>whnf
        repeat (refine⟨rfl,?_⟩;conv=>whnf)
        refine⟨by show En.v (.int .i64 (IntKind.i64.wrap (n+1)))=_;rw[wrap_id (by omega) (by omega)]<;>rfl,?_⟩
        conv=>whnf
        repeat (refine⟨rfl,?_⟩;conv=>whnf)
        exact trivial
      conv=>whnf
      refine (d51 kind _ ws _ hw3).val fun H115 s115=>?_
      have t115:=s115
      replace hG:=GlobH.up hG t115
      replace hsn:=Sub.trans hsn t115
      replace hw3:=IntsC.up hw3 t115
      replace hbv:=NumH.up hbv t115
      replace hgc:=GatesH.up hgc t115
      conv=>whnf
      intro b116 hb116 kb116
      conv=>whnf
      refine (d52 3 _ _ _ (gates1 (g1:=⟨kind,ws,0,0⟩) (ins_same _ _ _) (IntsC.up hw3 (sub_ins _ _ hb116)))).val fun H117 s117=>?_
      have t117:=((sub_ins _ _ hb116).trans s117)
      replace hG:=GlobH.up hG t117
      replace hsn:=Sub.trans hsn t117
      replace hw3:=IntsC.up hw3 t117
      replace hbv:=NumH.up hbv t117
      replace hgc:=GatesH.up hgc t117
      have hg3:=gates1 (cap:=1) (g1:=⟨kind,ws,0,0⟩) (s117 _ _ (ins_same _ _ _)) hw3
      conv=>whnf
      refine (d5 ⟨3,0,[g1 4,g1 7,⟨kind,ws,0,0⟩,⟨4,[_],0,0⟩]⟩ ⟨3,0,[⟨kind,ws,0,0⟩]⟩ _ _ (by simp) (by simp) _ _ _ hG hgc hg3).val fun H118 s118=>?_
      have t118:=s118
      replace hG:=GlobH.up hG t118
      replace hsn:=Sub.trans hsn t118
      replace hw3:=IntsC.up hw3 t118
      replace hbv:=NumH.up hbv t118
      replace hgc:=GatesH.up hgc t118
      replace hg3:=GatesH.up hg3 t118
      conv=>whnf
      intro b119 hb119 kb119
      conv=>whnf
      have hq:0≤IntKind.i64.wrap (((n:Nat):Int).tdiv 2):=by
        rw[Int.tdiv_eq_ediv_of_nonneg (by omega),wrap_id (by omega) (by omega)]
        omega
      obtain⟨j2,hj2,j2b⟩:=tmod2 _ hq
      rw[hj2]
      refine dec_intro (by omega) ?_
      rw[slice_pre]
      conv=>whnf
      refine (d3 ⟨3,0,[g1 4,g1 7,⟨kind,ws,0,0⟩,⟨4,[_],0,0⟩]⟩ _ _ (by simp) (basis3 _) _ _ _ _ (GlobH.up hG (sub_ins _ _ hb119)) (GatesH.up hgc (sub_ins _ _ hb119)) (NumH.up hbv (sub_ins _ _ hb119)) (pre_ints (l:=[_]) (n:=j2) (cap:=1) (ins_same _ _ _) j2b j2b)).val fun H120 s120=>?_
      have t120:=((sub_ins _ _ hb119).trans s120)
      replace hG:=GlobH.up hG t120
      replace hsn:=Sub.trans hsn t120
      replace hw3:=IntsC.up hw3 t120
      replace hbv:=NumH.up hbv t120
      replace hgc:=GatesH.up hgc t120
      replace hg3:=GatesH.up hg3 t120
      conv=>whnf
      refine⟨(n+1,_),⟨hnn,hsn⟩,by dsimp only;omega,?_⟩
      refine⟨rfl,rfl,?_⟩
      conv=>whnf
      repeat (refine⟨rfl,?_⟩;conv=>whnf)
      refine⟨by show En.v (.int .i64 (IntKind.i64.wrap (n+1)))=_;rw[wrap_id (by omega) (by omega)]<;>rfl,?_⟩
      conv=>whnf
      repeat (refine⟨rfl,?_⟩;conv=>whnf)
      exact trivial
    have hnn:n=27:=by
      have:=of_decide_eq_false hcn
      omega
    subst hnn
    conv=>whnf
    refine⟨(i+1,Hn),⟨hii,hsi.trans hsn⟩,by dsimp only;omega,?_⟩
    refine⟨rfl,rfl,?_⟩
    conv=>whnf
    repeat (refine⟨rfl,?_⟩;conv=>whnf)
    refine⟨by show En.v (.int .i64 (IntKind.i64.wrap (kind+1)))=_;rw[wrap_id (by omega) (by omega),hkind];congr 2;omega,?_⟩
    conv=>whnf
    repeat (refine⟨rfl,?_⟩;conv=>whnf)
    exact trivial
  have hii:i=18:=by
    have:=of_decide_eq_false hci
    omega
  subst hii
  conv=>whnf
  replace hG:=hG.up hsi
  conv=>whnf
  intro b7 hb7 kb7
  dsimp only at hb7
  conv=>whnf
  refine⟨_,_,ins_same _ _ _,by decide,?_⟩
  rw[ins_ins]
  conv=>whnf
  refine⟨_,_,ins_same _ _ _,by decide,?_⟩
  rw[ins_ins]
  conv=>whnf
  refine (d41 2 0 _).use fun r H301 s301 hr=>?_
  obtain⟨_,nv,rfl,hnv⟩:=hr
  obtain⟨nvb,nvc,rfl,_⟩:=id hnv
  have t301:=s301
  replace hG:=GlobH.up hG t301
  conv=>whnf
  refine W_loop (pol:=polSm) Γok (Nat × PH × PH × Value × List Gt × List (List Value)) (fun z=>z.1≤10∧Sub H301 z.2.1∧GB b7 z.1 z.2.2.2.1 z.2.2.2.2.1 z.2.2.2.2.2 z.2.1 z.2.2.1) (fun z=>10 - z.1) (fun z=>[(111,.v (.int .i64 z.1))]) (fun _=>[]) (fun z=>z.2.1) (fun z=>z.2.2.1) ⟨(0,H301,_,.slice none 0 0,[],[]),⟨by simp,Sub.refl _,ins_same _ _ _,⟨by simp,.inl ⟨rfl,rfl⟩⟩,⟨rfl,by simp⟩,rfl⟩,rfl,rfl,?_⟩ ?_
  · conv=>whnf
    repeat (refine⟨rfl,?_⟩;conv=>whnf)
    exact trivial
  rintro ⟨k,kH,kO,v,gs,cs⟩ ⟨k1,ks,hgb⟩
  dsimp only at k1 ks hgb
  conv=>whnf
  refine if_intro (fun kc=>?_) (fun kc=>?_)
  · have ki:k < 10:=by
      have:=of_decide_eq_true kc
      omega
    obtain⟨vb,vn,vc,rfl⟩:=OwnS.sl hgb.2.1
    conv=>whnf
    refine W_free (pol:=polSm) Γok mixes 370 (by kernel_rfl) rfl (SM kH b7 k (.slice vb vn vc) gs cs) ⟨Sub.refl _,fun _=>hgb.1,fun _=>hgb.2.1,fun i h=>(by cases h),fun h=>(by cases h),fun h=>(by cases h)⟩ ?_ ?_
    · intro i o ho L V H' O' hI hLi hsee
      have hi:i < 33:=(List.getElem?_eq_some_iff.1 ho).1
      have get:∀ j,seesB _ o j=true→SMq b7 k (.slice vb vn vc) gs cs j (V j) H' O':=fun j h=>hI.sp j (hsee j h)
      rcases (show i=0∨i=1∨i=2∨i=3∨i=4∨i=5∨i=6∨i=7∨i=8∨i=9∨i=10∨i=11∨i=12∨i=13∨i=14∨i=15∨i=16∨i=17∨i=18∨i=19∨i=20∨i=21∨i=22∨i=23∨i=24∨i=25∨i=26∨i=27∨i=28∨i=29∨i=30∨i=31∨i=32 by omega) with rfl | rfl | rfl | rfl | rfl | rfl | rfl | rfl | rfl | rfl | rfl | rfl | rfl | rfl | rfl | rfl | rfl | rfl | rfl | rfl | rfl | rfl | rfl | rfl | rfl | rfl | rfl | rfl | rfl | rfl | rfl | rfl | rfl
      · cases ho
        conv=>whnf
        exact⟨⟨_,rfl⟩,_,rfl,hI.step (Sub.refl _) (by decide) (by decide) rfl⟩
      · cases ho
        have h0:V 0=.pointer (some ⟨b7,2,none⟩):=get 0 (by kernel_rfl)
        have h9:L 32=false:=by
          cases e:L 32 with
          | false=>rfl
          | true=>
            have:=hI.c30 (hI.c32 e)
            rw[hLi] at this
            cases this
        conv=>whnf
        rw[h0]
        conv=>whnf
        refine⟨[.slice vb vn vc],⟨rfl,rfl,_,_,_,.inr (hI.old h9),rfl⟩,?_⟩
        conv=>whnf
        exact⟨⟨_,rfl⟩,_,rfl,hI.step (Sub.refl _) (by decide) (by decide) rfl⟩
      · cases ho
        conv=>whnf
        exact⟨⟨_,rfl⟩,_,rfl,hI.step (Sub.refl _) (by decide) (by decide) rfl⟩
      · cases ho
        have h2:V 2=.int .i64 (k:Int):=get 2 (by kernel_rfl)
        conv=>whnf
        rw[h2]
        conv=>whnf
        exact⟨⟨_,rfl⟩,_,rfl,hI.step (Sub.refl _) (by decide) (by decide) ⟨_,rfl⟩⟩
      · cases ho
        obtain⟨y3,h3⟩:isI (V 3):=get 3 (by kernel_rfl)
        conv=>whnf
        rw[h3]
        conv=>whnf
        intro b hb hO
        exact⟨⟨_,rfl⟩,_,rfl,hI.step (sub_ins _ _ hb) (by decide) (by decide) ⟨b,_,rfl,ins_same _ _ _⟩⟩
      · cases ho
        obtain⟨b4,z4,h4,g4⟩:sl1 H' (V 4):=get 4 (by kernel_rfl)
        conv=>whnf
        rw[h4]
        conv=>whnf
        refine (d51 4 _ [z4] _ (ints_c (l:=[z4]) g4)).val fun H3 s3=>?_
        conv=>whnf
        exact⟨⟨_,rfl⟩,_,rfl,hI.step s3 (by decide) (by decide) ⟨_,b4,z4,_,_,rfl,s3 _ _ g4⟩⟩
      · cases ho
        conv=>whnf
        intro b hb hO
        exact⟨⟨_,rfl⟩,_,rfl,hI.step (sub_ins _ _ hb) (by decide) (by decide) ⟨b,rfl,_,_,_,ins_same _ _ _⟩⟩
      · cases ho
        conv=>whnf
        exact⟨⟨_,rfl⟩,_,rfl,hI.step (Sub.refl _) (by decide) (by decide) rfl⟩
      · cases ho
        have h7:V 7=.int .i64 (k:Int):=get 7 (by kernel_rfl)
        conv=>whnf
        rw[h7]
        conv=>whnf
        exact⟨⟨_,rfl⟩,_,rfl,hI.step (Sub.refl _) (by decide) (by decide) (tmod3 k)⟩
      · cases ho
        obtain⟨ba,ha,ta⟩:sl3 H' (V 6):=get 6 (by kernel_rfl)
        obtain⟨j,hj,hj3⟩:isJ (V 8):=get 8 (by kernel_rfl)
        conv=>whnf
        rw[ha]
        conv=>whnf
        rw[hj]
        conv=>whnf
        refine dec_intro (by omega) ?_
        conv=>whnf
        rcases (show j=0∨j=1∨j=2 by omega) with rfl | rfl | rfl<;>exact⟨⟨_,rfl⟩,_,rfl,hI.step (Sub.refl _) (by decide) (by decide) ⟨ba,_,rfl,by decide,ta⟩⟩
      · cases ho
        obtain⟨ba,j,ha,hj3,y1,y2,y3,ta⟩:pt3 H' (V 9):=get 9 (by kernel_rfl)
        conv=>whnf
        rw[ha]
        conv=>whnf
        rcases (show j=0∨j=1∨j=2 by omega) with rfl | rfl | rfl
        · refine⟨[.int .i64 y1],⟨rfl,rfl,_,_,_,.inl ta,rfl⟩,?_⟩
          conv=>whnf
          exact⟨⟨_,rfl⟩,_,rfl,hI.step (Sub.refl _) (by decide) (by decide) ⟨_,rfl⟩⟩
        · refine⟨[.int .i64 y2],⟨rfl,rfl,_,_,_,.inl ta,rfl⟩,?_⟩
          conv=>whnf
          exact⟨⟨_,rfl⟩,_,rfl,hI.step (Sub.refl _) (by decide) (by decide) ⟨_,rfl⟩⟩
        · refine⟨[.int .i64 y3],⟨rfl,rfl,_,_,_,.inl ta,rfl⟩,?_⟩
          conv=>whnf
          exact⟨⟨_,rfl⟩,_,rfl,hI.step (Sub.refl _) (by decide) (by decide) ⟨_,rfl⟩⟩
      · cases ho
        conv=>whnf
        exact⟨⟨_,rfl⟩,_,rfl,hI.step (Sub.refl _) (by decide) (by decide) rfl⟩
      · cases ho
        have h11:V 11=.int .i64 (k:Int):=get 11 (by kernel_rfl)
        conv=>whnf
        rw[h11]
        conv=>whnf
        exact⟨⟨_,rfl⟩,_,rfl,hI.step (Sub.refl _) (by decide) (by decide) ⟨_,rfl⟩⟩
      · cases ho
        obtain⟨y12,h12⟩:isI (V 12):=get 12 (by kernel_rfl)
        conv=>whnf
        rw[h12]
        conv=>whnf
        intro b hb hO
        exact⟨⟨_,rfl⟩,_,rfl,hI.step (sub_ins _ _ hb) (by decide) (by decide) ⟨b,_,rfl,ins_same _ _ _⟩⟩
      · cases ho
        conv=>whnf
        exact⟨⟨_,rfl⟩,_,rfl,hI.step (Sub.refl _) (by decide) (by decide) rfl⟩
      · cases ho
        have h14:V 14=.int .i64 (k:Int):=get 14 (by kernel_rfl)
        conv=>whnf
        rw[h14]
        conv=>whnf
        exact⟨⟨_,rfl⟩,_,rfl,hI.step (Sub.refl _) (by decide) (by decide) ⟨_,rfl⟩⟩
      · cases ho
        obtain⟨y15,h15⟩:isI (V 15):=get 15 (by kernel_rfl)
        conv=>whnf
        rw[h15]
        conv=>whnf
        intro b hb hO
        exact⟨⟨_,rfl⟩,_,rfl,hI.step (sub_ins _ _ hb) (by decide) (by decide) ⟨b,rfl,_,_,_,ins_same _ _ _⟩⟩
      · cases ho
        conv=>whnf
        exact⟨⟨_,rfl⟩,_,rfl,hI.step (Sub.refl _) (by decide) (by decide) rfl⟩
      · cases ho
        have h17:V 17=.int .i64 (k:Int):=get 17 (by kernel_rfl)
        conv=>whnf
        rw[h17]
        conv=>whnf
        exact⟨⟨_,rfl⟩,_,rfl,hI.step (Sub.refl _) (by decide) (by decide) (tmod3 k)⟩
      · cases ho
        obtain⟨ba,ha,ta⟩:sl3 H' (V 16):=get 16 (by kernel_rfl)
        obtain⟨j,hj,hj3⟩:isJ (V 18):=get 18 (by kernel_rfl)
        conv=>whnf
        rw[ha]
        conv=>whnf
        rw[hj]
        conv=>whnf
        refine dec_intro (by omega) ?_
        conv=>whnf
        rcases (show j=0∨j=1∨j=2 by omega) with rfl | rfl | rfl<;>exact⟨⟨_,rfl⟩,_,rfl,hI.step (Sub.refl _) (by decide) (by decide) ⟨ba,_,rfl,by decide,ta⟩⟩
      · cases ho
        obtain⟨ba,j,ha,hj3,y1,y2,y3,ta⟩:pt3 H' (V 19):=get 19 (by kernel_rfl)
        conv=>whnf
        rw[ha]
        conv=>whnf
        rcases (show j=0∨j=1∨j=2 by omega) with rfl | rfl | rfl
        · refine⟨[.int .i64 y1],⟨rfl,rfl,_,_,_,.inl ta,rfl⟩,?_⟩
          conv=>whnf
          exact⟨⟨_,rfl⟩,_,rfl,hI.step (Sub.refl _) (by decide) (by decide) ⟨_,rfl⟩⟩
        · refine⟨[.int .i64 y2],⟨rfl,rfl,_,_,_,.inl ta,rfl⟩,?_⟩
          conv=>whnf
          exact⟨⟨_,rfl⟩,_,rfl,hI.step (Sub.refl _) (by decide) (by decide) ⟨_,rfl⟩⟩
        · refine⟨[.int .i64 y3],⟨rfl,rfl,_,_,_,.inl ta,rfl⟩,?_⟩
          conv=>whnf
          exact⟨⟨_,rfl⟩,_,rfl,hI.step (Sub.refl _) (by decide) (by decide) ⟨_,rfl⟩⟩
      · cases ho
        obtain⟨y10,h10⟩:isI (V 10):=get 10 (by kernel_rfl)
        obtain⟨b13,z13,h13,g13⟩:sl1 H' (V 13):=get 13 (by kernel_rfl)
        obtain⟨y20,h20⟩:isI (V 20):=get 20 (by kernel_rfl)
        conv=>whnf
        rw[h10]
        conv=>whnf
        rw[h13]
        conv=>whnf
        rw[h20]
        conv=>whnf
        exact⟨⟨_,rfl⟩,_,rfl,hI.step (Sub.refl _) (by decide) (by decide) ⟨_,b13,z13,_,_,rfl,g13⟩⟩
      · cases ho
        conv=>whnf
        exact⟨⟨_,rfl⟩,_,rfl,hI.step (Sub.refl _) (by decide) (by decide) rfl⟩
      · cases ho
        have h22:V 22=.int .i64 (k:Int):=get 22 (by kernel_rfl)
        conv=>whnf
        rw[h22]
        conv=>whnf
        exact⟨⟨_,rfl⟩,_,rfl,hI.step (Sub.refl _) (by decide) (by decide) ⟨_,rfl⟩⟩
      · cases ho
        obtain⟨y23,h23⟩:isI (V 23):=get 23 (by kernel_rfl)
        conv=>whnf
        rw[h23]
        conv=>whnf
        exact⟨⟨_,rfl⟩,_,rfl,hI.step (Sub.refl _) (by decide) (by decide) ⟨_,rfl⟩⟩
      · cases ho
        obtain⟨y24,h24⟩:isI (V 24):=get 24 (by kernel_rfl)
        conv=>whnf
        rw[h24]
        conv=>whnf
        intro b hb hO
        exact⟨⟨_,rfl⟩,_,rfl,hI.step (sub_ins _ _ hb) (by decide) (by decide) ⟨b,_,rfl,ins_same _ _ _⟩⟩
      · cases ho
        conv=>whnf
        exact⟨⟨_,rfl⟩,_,rfl,hI.step (Sub.refl _) (by decide) (by decide) rfl⟩
      · cases ho
        have h26:V 26=.int .i64 (k:Int):=get 26 (by kernel_rfl)
        conv=>whnf
        rw[h26]
        conv=>whnf
        exact⟨⟨_,rfl⟩,_,rfl,hI.step (Sub.refl _) (by decide) (by decide) ⟨_,rfl⟩⟩
      · cases ho
        obtain⟨b25,z25,h25,g25⟩:sl1 H' (V 25):=get 25 (by kernel_rfl)
        obtain⟨y27,h27⟩:isI (V 27):=get 27 (by kernel_rfl)
        conv=>whnf
        rw[h25]
        conv=>whnf
        rw[h27]
        conv=>whnf
        exact⟨⟨_,rfl⟩,_,rfl,hI.step (Sub.refl _) (by decide) (by decide) ⟨_,b25,z25,_,_,rfl,g25⟩⟩
      · cases ho
        obtain⟨a5,b5,z5,c5,d5,h5,g5⟩:rc4 H' (V 5):=get 5 (by kernel_rfl)
        obtain⟨a21,b21,z21,c21,d21,h21,g21⟩:rc4 H' (V 21):=get 21 (by kernel_rfl)
        obtain⟨a28,b28,z28,c28,d28,h28,g28⟩:rc4 H' (V 28):=get 28 (by kernel_rfl)
        conv=>whnf
        rw[h5]
        conv=>whnf
        rw[h21]
        conv=>whnf
        rw[h28]
        conv=>whnf
        intro b hb hO
        have s:=sub_ins H' (.cells ⟨[[.int .i64 a5,sl b5 1,.int .i64 c5,.int .i64 d5],[.int .i64 a21,sl b21 1,.int .i64 c21,.int .i64 d21],[.int .i64 a28,sl b28 1,.int .i64 c28,.int .i64 d28]].flatten⟩ 57 (0,0)) hb
        exact⟨⟨_,rfl⟩,_,rfl,hI.step s (by decide) (by decide) ⟨b,⟨a5,[z5],c5,d5⟩,⟨a21,[z21],c21,d21⟩,⟨a28,[z28],c28,d28⟩,_,_,_,rfl,ins_same _ _ _,⟨_,rfl,ints_c (l:=[z5]) (s _ _ g5)⟩,⟨_,rfl,ints_c (l:=[z21]) (s _ _ g21)⟩,⟨_,rfl,ints_c (l:=[z28]) (s _ _ g28)⟩⟩⟩
      · cases ho
        have h1:V 1=.slice vb vn vc:=get 1 (by kernel_rfl)
        have hL1:L 1=true:=hsee 1 (by kernel_rfl)
        obtain⟨bn,g1,g2,g3,c1,c2,c3,h29,hbn,q1,q2,q3⟩:sl57 H' (V 29):=get 29 (by kernel_rfl)
        have h9:L 32=false:=by
          cases e:L 32 with
          | false=>rfl
          | true=>
            have:=hI.c32 e
            rw[hLi] at this
            cases this
        conv=>whnf
        rw[h1]
        conv=>whnf
        rw[h29]
        conv=>whnf
        obtain⟨w1,rfl,r1⟩:=q1
        obtain⟨w2,rfl,r2⟩:=q2
        obtain⟨w3,rfl,r3⟩:=q3
        have hw1:w1.oneCell'=true:=by obtain⟨_,_,rfl,_⟩:=r1;rfl
        have hw2:w2.oneCell'=true:=by obtain⟨_,_,rfl,_⟩:=r2;rfl
        have hw3:w3.oneCell'=true:=by obtain⟨_,_,rfl,_⟩:=r3;rfl
        refine append_many' (ys:=[[.int .i64 g1.kind,w1,.int .i64 g1.bit,.int .i64 g1.cond],[.int .i64 g2.kind,w2,.int .i64 g2.bit,.int .i64 g2.cond],[.int .i64 g3.kind,w3,.int .i64 g3.bit,.int .i64 g3.cond]]) (hI.own hLi) rfl (fun y hy=>?_) (fun v hv=>?_) ⟨_,_,rfl,(fun h=>by cases h),fun a ha _=>?_⟩ ?_ fun v' O1 hov hk=>?_
        · simp only[List.mem_cons,List.not_mem_nil,or_false] at hy
          rcases hy with rfl | rfl | rfl<;>rfl
        · simp only[List.flatten_cons,List.flatten_nil,List.cons_append,List.nil_append,List.append_nil,List.mem_cons,List.not_mem_nil,or_false] at hv
          rcases hv with rfl | rfl | rfl | rfl | rfl | rfl | rfl | rfl | rfl | rfl | rfl | rfl<;>first | rfl | assumption
        · cases ha
          exact⟨rfl,rfl,_,_,_,.inl hbn,rfl⟩
        · have:=hgb.2.2.1.1
          have:=hgb.2.2.2
          simp only[List.length_cons,List.length_nil]
          omega
        have hgc3:=(((hgb.2.2.1.up hI.sub).snoc (g:=g1) ⟨w1,rfl,r1⟩).snoc (g:=g2) ⟨w2,rfl,r2⟩).snoc (g:=g3) ⟨w3,rfl,r3⟩
        rw[List.append_assoc,List.append_assoc,List.append_assoc,List.append_assoc] at hgc3
        conv=>whnf
        refine⟨⟨_,rfl⟩,_,rfl,hI.sub,fun _=>hk _ _ (hI.old h9) (OwnS.neq (hI.own hLi) (hI.old h9) (by decide)),fun h=>by simp[setL] at h,fun q hq=>?_,fun _=>?_,fun h=>?_⟩
        · by_cases e:q=30
          · subst e
            exact⟨_,_,rfl,hov,hgc3⟩
          · have e2:(q == 30)=false:=by simpa using e
            simp only[setV,e2,cond_false]
            simp only[setL,e2,Bool.false_or] at hq
            exact (hI.sp q hq).o e fun e=>by rw[e,h9] at hq;cases hq
        · simp only[setL]
          rw[hL1,Bool.or_true]
        · simp only[setL]
          rfl
      · cases ho
        conv=>whnf
        exact⟨⟨_,rfl⟩,_,rfl,hI.step (Sub.refl _) (by decide) (by decide) rfl⟩
      · cases ho
        have h31:V 31=.pointer (some ⟨b7,2,none⟩):=get 31 (by kernel_rfl)
        obtain⟨gl',cs',hl3,hov,hgc3⟩:∃ gl' cs',gl'.length=3∧OwnS O' 4 57 (V 30) (cs++cs')∧GatesC H' (gs++gl') (cs++cs'):=get 30 (by kernel_rfl)
        have hL30:L 30=true:=hsee 30 (by kernel_rfl)
        obtain⟨_,_,_,h30⟩:=OwnS.sl hov
        rw[h30] at hov
        conv=>whnf
        rw[h31]
        conv=>whnf
        rw[h30]
        conv=>whnf
        refine⟨_,_,hI.old hLi,Nat.le_refl 3,?_⟩
        have hov2:=OwnS.other hov (o:=.cells ⟨[.int .i64 2,.int .i64 2,V 30]⟩ 24 (0,0)) (hI.old hLi) (by decide)
        rw[h30] at hov2
        refine⟨⟨_,rfl⟩,_,rfl,hI.sub,fun h=>by simp[setL] at h,(fun h=>by rw[show setL L 32 30=L 30 from rfl,hL30] at h;cases h),fun q hq=>?_,fun _=>?_,fun h=>?_⟩
        · by_cases e:q=32
          · subst e
            exact⟨_,gl',cs',hl3,ins_same _ _ _,hov2,hgc3⟩
          · have e2:(q == 32)=false:=by simpa using e
            simp only[setV,e2,cond_false]
            simp only[setL,e2,Bool.false_or] at hq
            by_cases e7:q=30
            · subst e7
              refine⟨gl',cs',hl3,?_,hgc3⟩
              rw[h30]
              exact hov2
            · exact (hI.sp q hq).o e7 e
        · simp only[setL]
          rw[hI.c30 hL30,Bool.or_true]
        · simp only[setL]
          rw[hL30,Bool.or_true]
    · intro L V H' O' hI hall
      obtain⟨v1,gl',cs',hl3,hO7,hov,hgc3⟩:=hI.sp 32 (hall 32 (by decide))
      have hb2:GB b7 (k+1) v1 (gs++gl') (cs++cs') H' O':=⟨hO7,hov,hgc3,by rw[List.length_append,hl3,hgb.2.2.2];omega⟩
      replace ks:=ks.trans hI.sub
      replace hG:=GlobH.up hG ks
      replace hnv:=NumH.up hnv ks
      clear hI hall hO7 hov hgc3
      obtain⟨n1,hn1⟩:∃ n1,n1=k+1:=⟨_,rfl⟩
      have hw:IntKind.i64.wrap ((k:Int)+1)=(n1:Int):=by rw[wrap_id (by omega) (by omega)];omega
      conv=>whnf
      rw[show IntKind.i64.wrap ((((k,kH,kO,Value.slice vb vn vc,gs,cs):Nat × PH × PH × Value × List Gt × List (List Value)).1:Int)+1)=(n1:Int) from hw]
      refine dec_intro (by omega) ?_
      conv=>whnf
      refine dec_intro (by omega) ?_
      conv=>whnf
      refine dec_intro (by omega) ?_
      conv=>whnf
      intro b11 hb11 kb11
      rw[Int.toNat_natCast,rep_ints]
      replace hb2:=hb2.up (Sub.refl _) (sub_ins _ (.cells ⟨(List.replicate n1 (0:Int)).map fun x=>.int .i64 x⟩ 3 (0,0)) kb11)
      conv=>whnf
      refine W_loop (pol:=polSm) Γok (Nat × PH × List Int) (fun z=>z.1≤n1∧z.2.2.length=n1∧GB b7 (k+1) v1 (gs++gl') (cs++cs') H' z.2.1∧z.2.1 b11=some (.cells ⟨z.2.2.map fun x=>.int .i64 x⟩ 3 (0,0))) (fun z=>n1 - z.1) (fun z=>[(151,.v (.int .i64 z.1))]) (fun _=>[]) (fun z=>H') (fun z=>z.2.1) ⟨(0,_,_),⟨by simp,by rw[List.length_replicate],hb2,ins_same _ _ _⟩,rfl,rfl,?_⟩ ?_
      · conv=>whnf
        repeat (refine⟨rfl,?_⟩;conv=>whnf)
        exact trivial
      clear hb2
      rintro ⟨m,mO,ml⟩ ⟨m1,mn,hb2,ho11⟩
      dsimp only at m1 mn hb2 ho11
      conv=>whnf
      refine if_intro (fun mc=>?_) (fun mc=>?_)
      · have mi:m < n1:=by
          have:=of_decide_eq_true mc
          omega
        conv=>whnf
        refine dec_intro (by dsimp only;omega) ?_
        conv=>whnf
        generalize (IntKind.i64.wrap ((((m,mO,ml):Nat × PH × List Int).1:Int).tdiv 2)).tmod 2=y
        refine⟨_,_,ho11,?_,?_⟩
        · show 0+((m:Nat):Int).toNat*1+1≤_
          rw[List.length_map,Int.toNat_natCast]
          omega
        have hset:=ints_set ml m y (by omega)
        conv=>whnf
        refine⟨(m+1,_,ml.set m y),⟨mi,by rw[List.length_set];exact mn,hb2.other ho11,(ins_same _ _ _).trans (congrArg (fun c=>some (Obj.cells ⟨c⟩ 3 (0,0))) hset)⟩,by dsimp only;omega,?_⟩
        refine⟨rfl,rfl,?_⟩
        conv=>whnf
        repeat (refine⟨rfl,?_⟩;conv=>whnf)
        refine⟨by show En.v (.int .i64 (IntKind.i64.wrap (m+1)))=_;rw[wrap_id (by omega) (by omega)]<;>rfl,?_⟩
        conv=>whnf
        repeat (refine⟨rfl,?_⟩;conv=>whnf)
        exact trivial
      have me:m=n1:=by
        have:=of_decide_eq_false mc
        omega
      subst me
      conv=>whnf
      obtain⟨xb,xn,xc,rfl⟩:=OwnS.sl hb2.2.1
      refine W_lend (L:=mO) (R:=emp) (parts_all mO) fun hd=>?_
      have hlG:=GlobH.up hG (un_left H' mO)
      have hlg:=hb2.gates hd
      have hln:=NumH.up hnv (un_left H' mO)
      have hl7:=un_right hd hb2.1
      have hl11:=un_right hd ho11
      have hls:=Sub.refl (un H' mO)
      refine W_draw (pol:=polSm) Γok mixes [(0,.pendO),(1,.pendO),(2,.pendO),(3,.lock),(4,.pendO),(5,.pendO),(6,.pendO),(7,.pendO),(8,.pendO),(9,.pendO),(10,.pendO),(11,.lock),(12,.pendO),(13,.pendO),(14,.pendO),(15,.pendH),(16,.pendH),(17,.pendO),(18,.lock),(19,.lock),(20,.lock),(21,.pendO),(22,.pendO)] 370 (by kernel_rfl) rfl ?_
      conv=>whnf
      conv=>whnf
      refine⟨_,⟨rfl,rfl,_,_,_,.inl hl7,rfl⟩,?_⟩
      conv=>whnf
      refine (d3 ⟨2,2,gs++gl'⟩ _ ml (by have:=hb2.2.2.2;dsimp only;omega) (basis2 0) _ _ _ _ hlG hlg hln (ints_c hl11 mn.symm)).val fun H801 s801=>?_
      replace hlG:=GlobH.up hlG s801
      replace hlg:=GatesH.up hlg s801
      replace hln:=NumH.up hln s801
      replace hls:=hls.trans s801
      replace hl7:=s801 _ _ hl7
      replace hl11:=s801 _ _ hl11
      conv=>whnf
      refine⟨_,⟨rfl,rfl,_,_,_,.inl hl7,rfl⟩,?_⟩
      conv=>whnf
      refine dec_intro (by omega) ?_
      rw[slice_pre]
      conv=>whnf
      refine (d3 ⟨2,2,gs++gl'⟩ _ _ (by have:=hb2.2.2.2;dsimp only;omega) (basis2 0) _ _ _ _ hlG hlg hln (pre_ints (n:=k) hl11 (by omega) (by omega))).val fun H802 s802=>?_
      replace hlG:=GlobH.up hlG s802
      replace hlg:=GatesH.up hlg s802
      replace hln:=NumH.up hln s802
      replace hls:=hls.trans s802
      replace hl7:=s802 _ _ hl7
      replace hl11:=s802 _ _ hl11
      conv=>whnf
      refine⟨_,⟨rfl,rfl,_,_,_,.inl hl7,rfl⟩,?_⟩
      conv=>whnf
      intro bz hbz kbz
      have sz:=sub_ins _ (.cells ⟨[.int .i64 0]⟩ 3 (0,0)) hbz
      have hbzL:mO bz=none:=by
        cases e:mO bz with
        | none=>rfl
        | some o=>rw[hls _ _ (un_right hd e)] at hbz;cases hbz
      replace hlG:=GlobH.up hlG sz
      replace hlg:=GatesH.up hlg sz
      replace hln:=NumH.up hln sz
      replace hls:=hls.trans sz
      replace hl7:=sz _ _ hl7
      replace hl11:=sz _ _ hl11
      clear sz
      conv=>whnf
      unfold appendK
      refine⟨some ⟨b11,0,none⟩,m,m,some ⟨bz,0,none⟩,1,1,[.int .i64 0],rfl,rfl,rfl,?_,(fun h=>by cases h),fun a ha _=>?_,by omega,rfl,(fun h=>by cases h),(fun _ h=>by omega),fun _=>⟨ml.map fun x=>.int .i64 x,by rw[List.length_map];omega,(fun h=>by cases h),fun a ha=>?_,fun bn cap hn1' hn2 hcap=>?_⟩⟩
      · intro v hv
        simp only[List.mem_cons,List.not_mem_nil,or_false] at hv
        rw[hv]
        rfl
      · cases ha
        exact⟨rfl,rfl,_,_,_,.inl (ins_same _ _ _),rfl⟩
      · cases ha
        refine⟨rfl,by rw[List.length_map];omega,_,_,_,.inl hl11,?_⟩
        dsimp only
        rw[List.drop_zero]
        exact List.take_of_length_le (by rw[List.length_map];omega)
      rw[show (ml.map fun x=>Value.int .i64 x)++[.int .i64 0]++(List.replicate (cap - (m+1)) [Value.int .i64 0]).flatten=(ml++[0]++List.replicate (cap - (m+1)) 0).map fun x=>.int .i64 x from by rw[rep_ints,List.map_append,List.map_append];rfl]
      conv=>whnf
      refine (d3s (l:=(ml++[0]++List.replicate (cap - (m+1)) 0).take (m+1)) (by have:=hb2.2.2.2;omega) hlG hlg (basis2 0) hln fun hd'=>pre_ints (un_right hd' (ins_same _ _ _)) (by simp;omega) hcap).mono fun r H803 O803 s803 hr=>?_
      obtain⟨rfl,o803⟩:=hr
      conv=>whnf
      refine⟨fun n o hn=>s803 _ _ (hls _ _ (un_right hd hn)),fun q b3 hq hp=>?_,fun H4 e1 e2=>?_⟩
      · cases q with
        | zero=>cases hq;exact hbzL
        | succ q=>simp at hq
      have s4:Sub H' H4:=fun n o hn=>(e1 n ((hd n).resolve_left (by rw[hn];simp))).trans (s803 _ _ (hls _ _ (un_left H' mO _ _ hn)))
      replace hG:=GlobH.up hG s4
      replace hnv:=NumH.up hnv s4
      replace ks:=ks.trans s4
      replace hb2:=hb2.up s4 (un_left mO O803)
      replace ho11:=un_left mO O803 _ _ ho11
      clear hlG hlg hln hl7 hl11 hls e1 e2 hd s4
      generalize un mO O803=O4 at hb2 ho11 ⊢
      conv=>whnf
      intro b9 hb9 kb9
      conv=>whnf
      have s9:=sub_ins H4 (.cells ⟨([-1,2]:List Int).map fun x=>.int .i64 x⟩ 3 (0,0)) hb9
      replace hG:=GlobH.up hG s9
      replace hnv:=NumH.up hnv s9
      replace ks:=ks.trans s9
      replace hb2:=hb2.up s9 (Sub.refl _)
      refine W_loop (pol:=polSm) Γok (Nat × PH × PH × List Int) (fun z=>z.1≤2∧Sub (PH.ins H4 b9 (.cells ⟨([-1,2]:List Int).map fun x=>.int .i64 x⟩ 3 (0,0))) z.2.1∧GB b7 (k+1) (.slice xb xn xc) (gs++gl') (cs++cs') z.2.1 z.2.2.1∧z.2.2.1 b11=some (.cells ⟨z.2.2.2.map fun x=>.int .i64 x⟩ 3 (0,0))∧z.2.2.2.length=m) (fun z=>2 - z.1) (fun z=>[(186,.v (.int .i64 z.1))]) (fun _=>[]) (fun z=>z.2.1) (fun z=>z.2.2.1) ⟨(0,PH.ins H4 b9 (.cells ⟨([-1,2]:List Int).map fun x=>.int .i64 x⟩ 3 (0,0)),O4,ml),⟨by simp,Sub.refl _,hb2,ho11,mn⟩,rfl,rfl,?_⟩ ?_
      · conv=>whnf
        repeat (refine⟨rfl,?_⟩;conv=>whnf)
        exact trivial
      clear hb2 ho11 mn
      rintro ⟨j,jH,jO,jl⟩ ⟨j1,js,hb2,ho11,mn⟩
      dsimp only at j1 js hb2 ho11 mn
      replace hG:=GlobH.up hG js
      replace hnv:=NumH.up hnv js
      replace ks:=ks.trans js
      conv=>whnf
      refine if_intro (fun jc=>?_) (fun jc=>?_)
      · have ji:j < 2:=by
          have:=of_decide_eq_true jc
          omega
        conv=>whnf
        refine dec_intro (by dsimp only;omega) ?_
        conv=>whnf
        refine at_ints (L:=[-1,2]) (i:=j) ji fun x=>?_
        conv=>whnf
        obtain⟨p,hp,hpm⟩:∃ p:Nat,IntKind.i64.wrap ((k:Int).tdiv 2)=(p:Int)∧p < m:=by
          refine⟨k / 2,?_,by omega⟩
          rw[Int.tdiv_eq_ediv_of_nonneg (by omega),wrap_id (by omega) (by omega)]
          rfl
        rw[show IntKind.i64.wrap ((((k,kH,kO,Value.slice vb vn vc,gs,cs):Nat × PH × PH × Value × List Gt × List (List Value)).1:Int).tdiv 2)=(p:Int) from hp]
        refine dec_intro (by omega) ?_
        conv=>whnf
        refine⟨_,_,ho11,?_,?_⟩
        · show 0+((p:Nat):Int).toNat*1+1≤_
          rw[List.length_map,Int.toNat_natCast]
          omega
        have hset:=congrArg (fun c=>some (Obj.cells ⟨c⟩ 3 (0,0))) (ints_set jl p x (by omega))
        conv=>whnf
        refine⟨_,⟨rfl,rfl,_,_,_,.inr (hb2.other ho11).1,rfl⟩,?_⟩
        conv=>whnf
        refine (d3o (by omega) hG (hb2.other ho11) (basis2 0) hnv fun hd=>ints_c (l:=jl.set p x) (un_right hd ((ins_same _ _ _).trans hset)) (by rw[List.length_set];exact mn.symm)).mono fun r H805 O805 s805 hr=>?_
        obtain⟨rfl,o805⟩:=hr
        replace hb2:=(hb2.other ho11).up s805 o805
        replace ho11:=o805 _ _ ((ins_same _ _ _).trans hset)
        replace js:=js.trans s805
        conv=>whnf
        refine⟨(j+1,_,_,jl.set p x),⟨ji,js,hb2,ho11,by rw[List.length_set];exact mn⟩,by dsimp only;omega,?_⟩
        refine⟨rfl,rfl,?_⟩
        conv=>whnf
        repeat (refine⟨rfl,?_⟩;conv=>whnf)
        refine⟨by show En.v (.int .i64 (IntKind.i64.wrap (j+1)))=_;rw[wrap_id (by omega) (by omega)]<;>rfl,?_⟩
        conv=>whnf
        repeat (refine⟨rfl,?_⟩;conv=>whnf)
        exact trivial
      have je:j=2:=by
        have:=of_decide_eq_false jc
        omega
      subst je
      conv=>whnf
      refine⟨_,⟨rfl,rfl,_,_,_,.inr hb2.1,rfl⟩,?_⟩
      conv=>whnf
      refine⟨_,⟨rfl,rfl,_,_,_,.inr hb2.1,rfl⟩,?_⟩
      conv=>whnf
      refine (d5o (by omega) hG hb2).mono fun r H806 O806 s806 hr=>?_
      obtain⟨rfl,o806⟩:=hr
      replace hb2:=hb2.up s806 o806
      replace ks:=ks.trans s806
      conv=>whnf
      refine⟨(k+1,_,_,_,gs++gl',cs++cs'),⟨ki,ks,hb2⟩,by dsimp only;omega,?_⟩
      refine⟨rfl,rfl,?_⟩
      conv=>whnf
      repeat (refine⟨rfl,?_⟩;conv=>whnf)
      refine⟨by show En.v (.int .i64 (IntKind.i64.wrap (k+1)))=_;rw[wrap_id (by omega) (by omega)]<;>rfl,?_⟩
      conv=>whnf
      repeat (refine⟨rfl,?_⟩;conv=>whnf)
      exact trivial
  have ke:k=10:=by
    have:=of_decide_eq_false kc
    omega
  subst ke
  replace hG:=GlobH.up hG ks
  replace hnv:=NumH.up hnv ks
  conv=>whnf
  refine W_loop (pol:=polSm) Γok (Nat × PH × PH) (fun z=>z.1≤67∧Sub kH z.2.1) (fun z=>67 - z.1) (fun z=>[(207,.v (.int .i64 z.1))]) (fun _=>[]) (fun z=>z.2.1) (fun z=>z.2.2) ⟨(0,kH,_),⟨by simp,Sub.refl _⟩,rfl,rfl,?_⟩ ?_
  · conv=>whnf
    repeat (refine⟨rfl,?_⟩;conv=>whnf)
    exact trivial
  rintro ⟨c,cH,cO⟩ ⟨c1,cs⟩
  dsimp only at c1 cs
  conv=>whnf
  refine if_intro (fun cc=>?_) (fun cc=>?_)
  · have ci:c < 67:=by
      have:=of_decide_eq_true cc
      omega
    replace hG:=GlobH.up hG cs
    replace hnv:=NumH.up hnv cs
    conv=>whnf
    refine dec_intro (by dsimp only;omega) ?_
    conv=>whnf
    refine dec_intro (by dsimp only;omega) ?_
    conv=>whnf
    refine dec_intro (by dsimp only;omega) ?_
    conv=>whnf
    intro b hb kb
    dsimp only at hb kb
    rw[show (List.replicate (((c,cH,cO):Nat × PH × PH).1:Int).toNat _).flatten=cellsN (zeros c) from zeros_flat c]
    dsimp only
    conv=>whnf
    rw[Int.toNat_natCast]
    refine if_intro (fun c4=>?_) (fun c4=>?_)
    · have c4:=of_decide_eq_true c4
      obtain⟨p,hp,hpc⟩:∃ p:Nat,IntKind.i64.wrap ((c:Int).tdiv 2)=(p:Int)∧p < c:=by
        refine⟨c / 2,?_,by omega⟩
        rw[Int.tdiv_eq_ediv_of_nonneg (by omega),wrap_id (by omega) (by omega)]
        rfl
      conv=>whnf
      rw[hp]
      refine dec_intro (by omega) ?_
      conv=>whnf
      refine⟨_,_,ins_same _ _ _,?_,?_⟩
      · show _≤(cellsN (zeros c)).length
        rw[cellsN_length]
        simp[zeros]
        omega
      rw[ins_ins]
      have hcl:=cellsN_set (zeros c) p (⟨1,c,0,0⟩,3) (by simp[zeros];omega)
      conv=>whnf
      refine publishG b (.cells ⟨cellsN ((zeros c).set p (⟨1,c,0,0⟩,3))⟩ 32 (0,0)) ((ins_same _ _ _).trans (by congr 3)) fun O2=>?_
      have hx:NumH (cH.ins b (.cells ⟨cellsN ((zeros c).set p (⟨1,c,0,0⟩,3))⟩ 32 (0,0))) (.slice (some ⟨b,0,none⟩) c c) ((zeros c).set p (⟨1,c,0,0⟩,3)):=num_sl (ins_same _ _ _) (by simp[zeros])
      have hs2:=sub_ins cH (.cells ⟨cellsN ((zeros c).set p (⟨1,c,0,0⟩,3))⟩ 32 (0,0)) hb
      have hxl:(((zeros c).set p (⟨1,c,0,0⟩,3))).length < 9223372036854775808:=by simp[zeros];omega
      generalize cH.ins b (.cells ⟨cellsN ((zeros c).set p (⟨1,c,0,0⟩,3))⟩ 32 (0,0))=H2 at hx hs2 ⊢
      generalize ((zeros c).set p (⟨1,c,0,0⟩,3))=vv at hx hxl ⊢
      replace hG:=GlobH.up hG hs2
      replace hnv:=NumH.up hnv hs2
      replace cs:=Sub.trans cs hs2
      refine (d6 vv vv _ _ hxl hxl _ _ _ hG hx hx).val fun H421 s421=>?_
      have t421:=s421
      replace hG:=GlobH.up hG t421
      replace hnv:=NumH.up hnv t421
      replace cs:=Sub.trans cs t421
      replace hx:=NumH.up hx t421
      conv=>whnf
      refine (d6 vv _ 6 _ hxl (basis2 0) _ _ _ hG hx hnv).val fun H422 s422=>?_
      have t422:=s422
      replace hG:=GlobH.up hG t422
      replace hnv:=NumH.up hnv t422
      replace cs:=Sub.trans cs t422
      replace hx:=NumH.up hx t422
      conv=>whnf
      intro b423 hb423 kb423
      conv=>whnf
      refine (d51 1 _ [0] _ (ints_c (l:=[0]) (ins_same _ _ _))).val fun H424 s424=>?_
      have t424:=((sub_ins _ _ hb423).trans s424)
      replace hG:=GlobH.up hG t424
      replace hnv:=NumH.up hnv t424
      replace cs:=Sub.trans cs t424
      replace hx:=NumH.up hx t424
      have ib423:=ints_c (l:=[0]) (s424 _ _ (ins_same _ _ _))
      conv=>whnf
      refine (d4 vv ⟨1,[0],0,0⟩ _ 1 hxl (by simp) _ _ _ hG hx ib423).val fun H425 s425=>?_
      have t425:=s425
      replace hG:=GlobH.up hG t425
      replace hnv:=NumH.up hnv t425
      replace cs:=Sub.trans cs t425
      replace hx:=NumH.up hx t425
      replace ib423:=IntsC.up ib423 t425
      conv=>whnf
      refine (d52 _ _ [] _ (gates_nil _)).val fun H426 s426=>?_
      have t426:=s426
      replace hG:=GlobH.up hG t426
      replace hnv:=NumH.up hnv t426
      replace cs:=Sub.trans cs t426
      replace hx:=NumH.up hx t426
      replace ib423:=IntsC.up ib423 t426
      conv=>whnf
      refine (d3 ⟨_,0,[]⟩ vv [] (by simp) hxl _ _ _ _ hG (gates_nil _) hx (IntsC.nil _)).val fun H427 s427=>?_
      have t427:=s427
      replace hG:=GlobH.up hG t427
      replace hnv:=NumH.up hnv t427
      replace cs:=Sub.trans cs t427
      replace hx:=NumH.up hx t427
      replace ib423:=IntsC.up ib423 t427
      conv=>whnf
      refine⟨(c+1,_,O2),⟨ci,cs⟩,by dsimp only;omega,?_⟩
      refine⟨rfl,rfl,?_⟩
      conv=>whnf
      repeat (refine⟨rfl,?_⟩;conv=>whnf)
      refine⟨by show En.v (.int .i64 (IntKind.i64.wrap (c+1)))=_;rw[wrap_id (by omega) (by omega)]<;>rfl,?_⟩
      conv=>whnf
      repeat (refine⟨rfl,?_⟩;conv=>whnf)
      exact trivial
    conv=>whnf
    refine publishG b (.cells ⟨cellsN (zeros c)⟩ 32 (0,0)) (ins_same _ _ _) fun O2=>?_
    have hx:NumH (cH.ins b (.cells ⟨cellsN (zeros c)⟩ 32 (0,0))) (.slice (some ⟨b,0,none⟩) c c) (zeros c):=num_sl (ins_same _ _ _) (by simp[zeros])
    have hs2:=sub_ins cH (.cells ⟨cellsN (zeros c)⟩ 32 (0,0)) hb
    have hxl:((zeros c)).length < 9223372036854775808:=by simp[zeros];omega
    generalize cH.ins b (.cells ⟨cellsN (zeros c)⟩ 32 (0,0))=H2 at hx hs2 ⊢
    generalize (zeros c)=vv at hx hxl ⊢
    replace hG:=GlobH.up hG hs2
    replace hnv:=NumH.up hnv hs2
    replace cs:=Sub.trans cs hs2
    refine (d6 vv vv _ _ hxl hxl _ _ _ hG hx hx).val fun H421 s421=>?_
    have t421:=s421
    replace hG:=GlobH.up hG t421
    replace hnv:=NumH.up hnv t421
    replace cs:=Sub.trans cs t421
    replace hx:=NumH.up hx t421
    conv=>whnf
    refine (d6 vv _ 6 _ hxl (basis2 0) _ _ _ hG hx hnv).val fun H422 s422=>?_
    have t422:=s422
    replace hG:=GlobH.up hG t422
    replace hnv:=NumH.up hnv t422
    replace cs:=Sub.trans cs t422
    replace hx:=NumH.up hx t422
    conv=>whnf
    intro b423 hb423 kb423
    conv=>whnf
    refine (d51 1 _ [0] _ (ints_c (l:=[0]) (ins_same _ _ _))).val fun H424 s424=>?_
    have t424:=((sub_ins _ _ hb423).trans s424)
    replace hG:=GlobH.up hG t424
    replace hnv:=NumH.up hnv t424
    replace cs:=Sub.trans cs t424
    replace hx:=NumH.up hx t424
    have ib423:=ints_c (l:=[0]) (s424 _ _ (ins_same _ _ _))
    conv=>whnf
    refine (d4 vv ⟨1,[0],0,0⟩ _ 1 hxl (by simp) _ _ _ hG hx ib423).val fun H425 s425=>?_
    have t425:=s425
    replace hG:=GlobH.up hG t425
    replace hnv:=NumH.up hnv t425
    replace cs:=Sub.trans cs t425
    replace hx:=NumH.up hx t425
    replace ib423:=IntsC.up ib423 t425
    conv=>whnf
    refine (d52 _ _ [] _ (gates_nil _)).val fun H426 s426=>?_
    have t426:=s426
    replace hG:=GlobH.up hG t426
    replace hnv:=NumH.up hnv t426
    replace cs:=Sub.trans cs t426
    replace hx:=NumH.up hx t426
    replace ib423:=IntsC.up ib423 t426
    conv=>whnf
    refine (d3 ⟨_,0,[]⟩ vv [] (by simp) hxl _ _ _ _ hG (gates_nil _) hx (IntsC.nil _)).val fun H427 s427=>?_
    have t427:=s427
    replace hG:=GlobH.up hG t427
    replace hnv:=NumH.up hnv t427
    replace cs:=Sub.trans cs t427
    replace hx:=NumH.up hx t427
    replace ib423:=IntsC.up ib423 t427
    conv=>whnf
    refine⟨(c+1,_,O2),⟨ci,cs⟩,by dsimp only;omega,?_⟩
    refine⟨rfl,rfl,?_⟩
    conv=>whnf
    repeat (refine⟨rfl,?_⟩;conv=>whnf)
    refine⟨by show En.v (.int .i64 (IntKind.i64.wrap (c+1)))=_;rw[wrap_id (by omega) (by omega)]<;>rfl,?_⟩
    conv=>whnf
    repeat (refine⟨rfl,?_⟩;conv=>whnf)
    exact trivial
  have ce:c=67:=by
    have:=of_decide_eq_false cc
    omega
  subst ce
  replace hG:=GlobH.up hG cs
  replace hnv:=NumH.up hnv cs
  conv=>whnf
  intro b501 hb501 kb501
  conv=>whnf
  have h7:(cH.ins b501 (.cells ⟨cellsN [(⟨1073741824,0,0,0⟩,0),(⟨1073741824,0,1073741824,0⟩,0),(⟨1073741825,0,0,0⟩,0),(⟨1,0,0,0⟩,60),(⟨1,0,0,0⟩,61),(⟨32768,0,0,0⟩,0),(⟨-1,0,0,0⟩,-1)]⟩ 32 (0,0))) b501=some (.cells ⟨cellsN [(⟨1073741824,0,0,0⟩,0),(⟨1073741824,0,1073741824,0⟩,0),(⟨1073741825,0,0,0⟩,0),(⟨1,0,0,0⟩,60),(⟨1,0,0,0⟩,61),(⟨32768,0,0,0⟩,0),(⟨-1,0,0,0⟩,-1)]⟩ 32 (0,0)):=ins_same _ _ _
  have t7:Sub cH (cH.ins b501 (.cells ⟨cellsN [(⟨1073741824,0,0,0⟩,0),(⟨1073741824,0,1073741824,0⟩,0),(⟨1073741825,0,0,0⟩,0),(⟨1,0,0,0⟩,60),(⟨1,0,0,0⟩,61),(⟨32768,0,0,0⟩,0),(⟨-1,0,0,0⟩,-1)]⟩ 32 (0,0))):=(sub_ins _ _ hb501)
  replace hG:=GlobH.up hG t7
  replace hnv:=NumH.up hnv t7
  refine W_loop (pol:=polSm) Γok (Nat × PH × PH) (fun z=>z.1≤7∧Sub (cH.ins b501 (.cells ⟨cellsN [(⟨1073741824,0,0,0⟩,0),(⟨1073741824,0,1073741824,0⟩,0),(⟨1073741825,0,0,0⟩,0),(⟨1,0,0,0⟩,60),(⟨1,0,0,0⟩,61),(⟨32768,0,0,0⟩,0),(⟨-1,0,0,0⟩,-1)]⟩ 32 (0,0))) z.2.1) (fun z=>7 - z.1) (fun z=>[(262,.v (.int .i64 z.1))]) (fun _=>[]) (fun z=>z.2.1) (fun z=>z.2.2) ⟨(0,(cH.ins b501 (.cells ⟨cellsN [(⟨1073741824,0,0,0⟩,0),(⟨1073741824,0,1073741824,0⟩,0),(⟨1073741825,0,0,0⟩,0),(⟨1,0,0,0⟩,60),(⟨1,0,0,0⟩,61),(⟨32768,0,0,0⟩,0),(⟨-1,0,0,0⟩,-1)]⟩ 32 (0,0))),_),⟨by simp,Sub.refl _⟩,rfl,rfl,?_⟩ ?_
  · conv=>whnf
    repeat (refine⟨rfl,?_⟩;conv=>whnf)
    exact trivial
  rintro ⟨d,dH,dO⟩ ⟨d1,ds⟩
  dsimp only at d1 ds
  conv=>whnf
  refine if_intro (fun dc=>?_) (fun dc=>?_)
  · have di:d < 7:=by
      have:=of_decide_eq_true dc
      omega
    replace hG:=GlobH.up hG ds
    replace hnv:=NumH.up hnv ds
    conv=>whnf
    refine dec_intro (by dsimp only;omega) ?_
    conv=>whnf
    refine at_nums (L:=[(⟨1073741824,0,0,0⟩,0),(⟨1073741824,0,1073741824,0⟩,0),(⟨1073741825,0,0,0⟩,0),(⟨1,0,0,0⟩,60),(⟨1,0,0,0⟩,61),(⟨32768,0,0,0⟩,0),(⟨-1,0,0,0⟩,-1)]) (i:=d) di fun x=>?_
    conv=>whnf
    intro b511
    conv=>whnf
    intro b512 hb512 kb512
    conv=>whnf
    have hx:NumH (dH.ins b512 (.cells ⟨cellsN [x,(⟨1,0,0,0⟩,0),x,x]⟩ 32 (0,0))) _ [x,(⟨1,0,0,0⟩,0),x,x]:=num_sl (b:=b512) (ins_same dH _ _)
    have tx:Sub dH (dH.ins b512 (.cells ⟨cellsN [x,(⟨1,0,0,0⟩,0),x,x]⟩ 32 (0,0))):=(sub_ins _ _ hb512)
    replace hG:=GlobH.up hG tx
    replace hnv:=NumH.up hnv tx
    replace ds:=Sub.trans ds tx
    intro b513 hb513 kb513
    conv=>whnf
    refine (d6 [x,(⟨1,0,0,0⟩,0),x,x] [x,x,x,x] _ _ (by simp) (by simp) _ _ _ (GlobH.up hG (sub_ins _ _ hb513)) (NumH.up hx (sub_ins _ _ hb513)) (num_sl (b:=b513) (ins_same _ _ _))).val fun H514 s514=>?_
    have t514:=((sub_ins _ _ hb513).trans s514)
    replace hG:=GlobH.up hG t514
    replace hnv:=NumH.up hnv t514
    replace ds:=Sub.trans ds t514
    replace hx:=NumH.up hx t514
    conv=>whnf
    intro b515 hb515 kb515
    conv=>whnf
    refine (d51 4 _ [1] _ (ints_c (l:=[1]) (ins_same _ _ _))).val fun H516 s516=>?_
    have t516:=((sub_ins _ _ hb515).trans s516)
    replace hG:=GlobH.up hG t516
    replace hnv:=NumH.up hnv t516
    replace ds:=Sub.trans ds t516
    replace hx:=NumH.up hx t516
    have ib515:=ints_c (l:=[1]) (s516 _ _ (ins_same _ _ _))
    conv=>whnf
    refine (d4 [x,(⟨1,0,0,0⟩,0),x,x] ⟨4,[1],0,0⟩ _ _ (by simp) (by simp) _ _ _ hG hx ib515).val fun H517 s517=>?_
    have t517:=s517
    replace hG:=GlobH.up hG t517
    replace hnv:=NumH.up hnv t517
    replace ds:=Sub.trans ds t517
    replace hx:=NumH.up hx t517
    replace ib515:=IntsC.up ib515 t517
    conv=>whnf
    intro b518 hb518 kb518
    conv=>whnf
    refine (d51 7 _ [0] _ (ints_c (l:=[0]) (ins_same _ _ _))).val fun H519 s519=>?_
    have t519:=((sub_ins _ _ hb518).trans s519)
    replace hG:=GlobH.up hG t519
    replace hnv:=NumH.up hnv t519
    replace ds:=Sub.trans ds t519
    replace hx:=NumH.up hx t519
    replace ib515:=IntsC.up ib515 t519
    have ib518:=ints_c (l:=[0]) (s519 _ _ (ins_same _ _ _))
    conv=>whnf
    refine (d4 [x,(⟨1,0,0,0⟩,0),x,x] ⟨7,[0],0,0⟩ _ _ (by simp) (by simp) _ _ _ hG hx ib518).val fun H520 s520=>?_
    have t520:=s520
    replace hG:=GlobH.up hG t520
    replace hnv:=NumH.up hnv t520
    replace ds:=Sub.trans ds t520
    replace hx:=NumH.up hx t520
    replace ib515:=IntsC.up ib515 t520
    replace ib518:=IntsC.up ib518 t520
    conv=>whnf
    refine (d53 true _).use fun r H521 s521 hr=>?_
    obtain⟨_,cx,rfl,hcx⟩:=hr
    have t521:=s521
    replace hG:=GlobH.up hG t521
    replace hnv:=NumH.up hnv t521
    replace ds:=Sub.trans ds t521
    replace hx:=NumH.up hx t521
    replace ib515:=IntsC.up ib515 t521
    replace ib518:=IntsC.up ib518 t521
    conv=>whnf
    intro b522 hb522 kb522
    conv=>whnf
    refine (d3 (bellC true) [x,(⟨1,0,0,0⟩,0),x,x] [1,0] (by decide) (by simp) _ _ _ _ (GlobH.up hG (sub_ins _ _ hb522)) (GatesH.up hcx (sub_ins _ _ hb522)) (NumH.up hx (sub_ins _ _ hb522)) (ints_c (l:=[1,0]) (ins_same _ _ _))).val fun H523 s523=>?_
    have t523:=((sub_ins _ _ hb522).trans s523)
    replace hG:=GlobH.up hG t523
    replace hnv:=NumH.up hnv t523
    replace ds:=Sub.trans ds t523
    replace hx:=NumH.up hx t523
    replace ib515:=IntsC.up ib515 t523
    replace ib518:=IntsC.up ib518 t523
    replace hcx:=GatesH.up hcx t523
    conv=>whnf
    refine⟨(d+1,_,dO),⟨di,ds⟩,by dsimp only;omega,?_⟩
    refine⟨rfl,rfl,?_⟩
    conv=>whnf
    repeat (refine⟨rfl,?_⟩;conv=>whnf)
    refine⟨by show En.v (.int .i64 (IntKind.i64.wrap (d+1)))=_;rw[wrap_id (by omega) (by omega)]<;>rfl,?_⟩
    conv=>whnf
    repeat (refine⟨rfl,?_⟩;conv=>whnf)
    exact trivial
  have de:d=7:=by
    have:=of_decide_eq_false dc
    omega
  subst de
  replace hG:=GlobH.up hG ds
  replace hnv:=NumH.up hnv ds
  conv=>whnf
  intro b601 hb601 kb601
  conv=>whnf
  have t6:Sub dH (dH.ins b601 (.cells ⟨([-9223372036854775808,-1,0,3,4,9223372036854775807]:List Int).map fun x=>.int .i64 x⟩ 3 (0,0))):=(sub_ins _ _ hb601)
  replace hG:=GlobH.up hG t6
  replace hnv:=NumH.up hnv t6
  refine W_loop (pol:=polSm) Γok (Nat × PH × PH) (fun z=>z.1≤6∧Sub (dH.ins b601 (.cells ⟨([-9223372036854775808,-1,0,3,4,9223372036854775807]:List Int).map fun x=>.int .i64 x⟩ 3 (0,0))) z.2.1) (fun z=>6 - z.1) (fun z=>[(303,.v (.int .i64 z.1))]) (fun _=>[]) (fun z=>z.2.1) (fun z=>z.2.2) ⟨(0,(dH.ins b601 (.cells ⟨([-9223372036854775808,-1,0,3,4,9223372036854775807]:List Int).map fun x=>.int .i64 x⟩ 3 (0,0))),_),⟨by simp,Sub.refl _⟩,rfl,rfl,?_⟩ ?_
  · conv=>whnf
    repeat (refine⟨rfl,?_⟩;conv=>whnf)
    exact trivial
  rintro ⟨e,eH,eO⟩ ⟨e1,es⟩
  dsimp only at e1 es
  conv=>whnf
  refine if_intro (fun ec=>?_) (fun ec=>?_)
  · have ei:e < 6:=by
      have:=of_decide_eq_true ec
      omega
    replace hG:=GlobH.up hG es
    replace hnv:=NumH.up hnv es
    conv=>whnf
    refine dec_intro (by dsimp only;omega) ?_
    conv=>whnf
    refine at_ints (L:=[-9223372036854775808,-1,0,3,4,9223372036854775807]) (i:=e) ei fun x=>?_
    conv=>whnf
    refine (d6 _ _ _ _ (basis2 0) (basis2 0) _ _ _ hG hnv hnv).val fun H611 s611=>?_
    have t611:=s611
    replace hG:=GlobH.up hG t611
    replace hnv:=NumH.up hnv t611
    replace es:=Sub.trans es t611
    conv=>whnf
    refine (d6 _ _ _ _ (basis2 0) (basis2 0) _ _ _ hG hnv hnv).val fun H612 s612=>?_
    have t612:=s612
    replace hG:=GlobH.up hG t612
    replace hnv:=NumH.up hnv t612
    replace es:=Sub.trans es t612
    conv=>whnf
    intro b613 hb613 kb613
    conv=>whnf
    refine (d51 9 _ [x,0] _ (ints_c (l:=[x,0]) (ins_same _ _ _))).val fun H614 s614=>?_
    have t614:=((sub_ins _ _ hb613).trans s614)
    replace hG:=GlobH.up hG t614
    replace hnv:=NumH.up hnv t614
    replace es:=Sub.trans es t614
    have ib613:=ints_c (l:=[x,0]) (s614 _ _ (ins_same _ _ _))
    conv=>whnf
    refine (d4 _ ⟨9,[x,0],0,0⟩ _ _ (basis2 0) (by simp) _ _ _ hG hnv ib613).val fun H615 s615=>?_
    have t615:=s615
    replace hG:=GlobH.up hG t615
    replace hnv:=NumH.up hnv t615
    replace es:=Sub.trans es t615
    replace ib613:=IntsC.up ib613 t615
    conv=>whnf
    intro b616 hb616 kb616
    conv=>whnf
    refine (d51 x _ [0] _ (ints_c (l:=[0]) (ins_same _ _ _))).val fun H617 s617=>?_
    have t617:=((sub_ins _ _ hb616).trans s617)
    replace hG:=GlobH.up hG t617
    replace hnv:=NumH.up hnv t617
    replace es:=Sub.trans es t617
    replace ib613:=IntsC.up ib613 t617
    have ib616:=ints_c (l:=[0]) (s617 _ _ (ins_same _ _ _))
    conv=>whnf
    refine (d4 _ ⟨x,[0],0,0⟩ _ _ (basis2 0) (by simp) _ _ _ hG hnv ib616).val fun H618 s618=>?_
    have t618:=s618
    replace hG:=GlobH.up hG t618
    replace hnv:=NumH.up hnv t618
    replace es:=Sub.trans es t618
    replace ib613:=IntsC.up ib613 t618
    replace ib616:=IntsC.up ib616 t618
    conv=>whnf
    refine (d53 false _).use fun r H619 s619 hr=>?_
    obtain⟨_,cx,rfl,hcx⟩:=hr
    have t619:=s619
    replace hG:=GlobH.up hG t619
    replace hnv:=NumH.up hnv t619
    replace es:=Sub.trans es t619
    replace ib613:=IntsC.up ib613 t619
    replace ib616:=IntsC.up ib616 t619
    conv=>whnf
    refine (d53 false _).use fun r H620 s620 hr=>?_
    obtain⟨_,cy,rfl,hcy⟩:=hr
    have t620:=s620
    replace hG:=GlobH.up hG t620
    replace hnv:=NumH.up hnv t620
    replace es:=Sub.trans es t620
    replace ib613:=IntsC.up ib613 t620
    replace ib616:=IntsC.up ib616 t620
    replace hcx:=GatesH.up hcx t620
    conv=>whnf
    refine (d5 (bellC false) (bellC false) _ _ (by decide) (by decide) _ _ _ hG hcx hcy).val fun H621 s621=>?_
    have t621:=s621
    replace hG:=GlobH.up hG t621
    replace hnv:=NumH.up hnv t621
    replace es:=Sub.trans es t621
    replace ib613:=IntsC.up ib613 t621
    replace ib616:=IntsC.up ib616 t621
    replace hcx:=GatesH.up hcx t621
    replace hcy:=GatesH.up hcy t621
    conv=>whnf
    refine (d53 false _).use fun r H622 s622 hr=>?_
    obtain⟨_,cz,rfl,hcz⟩:=hr
    have t622:=s622
    replace hG:=GlobH.up hG t622
    replace hnv:=NumH.up hnv t622
    replace es:=Sub.trans es t622
    replace ib613:=IntsC.up ib613 t622
    replace ib616:=IntsC.up ib616 t622
    replace hcx:=GatesH.up hcx t622
    replace hcy:=GatesH.up hcy t622
    conv=>whnf
    refine (d52 _ _ [] _ (gates_nil _)).val fun H623 s623=>?_
    have t623:=s623
    replace hG:=GlobH.up hG t623
    replace hnv:=NumH.up hnv t623
    replace es:=Sub.trans es t623
    replace ib613:=IntsC.up ib613 t623
    replace ib616:=IntsC.up ib616 t623
    replace hcx:=GatesH.up hcx t623
    replace hcy:=GatesH.up hcy t623
    replace hcz:=GatesH.up hcz t623
    conv=>whnf
    refine (d5 (bellC false) ⟨_,0,[]⟩ _ _ (by decide) (by simp) _ _ _ hG hcz (gates_nil _)).val fun H624 s624=>?_
    have t624:=s624
    replace hG:=GlobH.up hG t624
    replace hnv:=NumH.up hnv t624
    replace es:=Sub.trans es t624
    replace ib613:=IntsC.up ib613 t624
    replace ib616:=IntsC.up ib616 t624
    replace hcx:=GatesH.up hcx t624
    replace hcy:=GatesH.up hcy t624
    replace hcz:=GatesH.up hcz t624
    conv=>whnf
    refine⟨(e+1,_,eO),⟨ei,es⟩,by dsimp only;omega,?_⟩
    refine⟨rfl,rfl,?_⟩
    conv=>whnf
    repeat (refine⟨rfl,?_⟩;conv=>whnf)
    refine⟨by show En.v (.int .i64 (IntKind.i64.wrap (e+1)))=_;rw[wrap_id (by omega) (by omega)]<;>rfl,?_⟩
    conv=>whnf
    repeat (refine⟨rfl,?_⟩;conv=>whnf)
    exact trivial
  have ee:e=6:=by
    have:=of_decide_eq_false ec
    omega
  subst ee
  replace hG:=GlobH.up hG es
  conv=>whnf
  refine (d52 7 _ [] _ (gates_nil _)).val fun H701 s701=>?_
  have t701:=s701
  replace hG:=GlobH.up hG t701
  conv=>whnf
  refine (d52 7 _ [] _ (gates_nil _)).val fun H702 s702=>?_
  have t702:=s702
  replace hG:=GlobH.up hG t702
  conv=>whnf
  refine (d5 ⟨7,0,[]⟩ ⟨7,0,[]⟩ _ _ (by simp) (by simp) _ _ _ hG (gates_nil _) (gates_nil _)).val fun H703 s703=>?_
  have t703:=s703
  replace hG:=GlobH.up hG t703
  conv=>whnf
  refine (d52 2 _ [] _ (gates_nil _)).val fun H704 s704=>?_
  have t704:=s704
  replace hG:=GlobH.up hG t704
  conv=>whnf
  refine (d52 3 _ [] _ (gates_nil _)).val fun H705 s705=>?_
  have t705:=s705
  replace hG:=GlobH.up hG t705
  conv=>whnf
  refine (d5 ⟨2,0,[]⟩ ⟨3,0,[]⟩ _ _ (by simp) (by simp) _ _ _ hG (gates_nil _) (gates_nil _)).val fun H706 s706=>?_
  have t706:=s706
  replace hG:=GlobH.up hG t706
  conv=>whnf
  refine (d51 1 _ [] _ (IntsC.nil _)).val fun H707 s707=>?_
  have t707:=s707
  replace hG:=GlobH.up hG t707
  conv=>whnf
  intro b708 hb708 kb708
  conv=>whnf
  refine (d52 1 _ [⟨1,[],0,0⟩] _ (gates1 (g1:=⟨1,[],0,0⟩) (ins_same _ _ _) (IntsC.nil _))).val fun H709 s709=>?_
  have t709:=((sub_ins _ _ hb708).trans s709)
  replace hG:=GlobH.up hG t709
  have hg1:=gates1 (cap:=1) (g1:=⟨1,[],0,0⟩) (s709 _ _ (ins_same _ _ _)) (IntsC.nil _)
  conv=>whnf
  refine (d52 0 _ [] _ (gates_nil _)).val fun H710 s710=>?_
  have t710:=s710
  replace hG:=GlobH.up hG t710
  replace hg1:=GatesH.up hg1 t710
  conv=>whnf
  refine (d5 ⟨1,0,[⟨1,[],0,0⟩]⟩ ⟨0,0,[]⟩ _ _ (by simp) (by simp) _ _ _ hG hg1 (gates_nil _)).val fun H711 s711=>?_
  have t711:=s711
  replace hG:=GlobH.up hG t711
  replace hg1:=GatesH.up hg1 t711
  conv=>whnf
  refine (d9 _ hG).val fun H712 s712=>?_
  have t712:=s712
  replace hG:=GlobH.up hG t712
  replace hg1:=GatesH.up hg1 t712
  conv=>whnf
end Go.Proofs.YtmhnalikebkhjaaGreatDoor

namespace Go.Proofs.YtmhnalikebkhjaaGreatDoor
open Go.Proofs.YtmhnalikebkhjaaGreatDoor.X Go.Proofs.YtmhnalikebkhjaaGreatDoor.X.PH Go.ChangeShapes Go.WideShapes Go.ChangeAt Go.RowKit Go.Deep
set_option maxRecDepth 100000
theorem Cl.calls {f : FuncId} {args:List Value} {W:World} {Q:Value→Prop} (h:Cl Tryz.prog f args (heapP W) emp fun v _ _=>Q v):Calls Tryz.prog f args.toArray W fun e W'=>∃ v,e=.returned v∧Below W.heap.size W W'∧Q v:=by
  unfold Cl at h
  refine (h.2 W (fun n o hn=>hn) (fun n o hn=>by cases hn) (.emp _)).mono ?_
  rintro e W' ⟨v,H',M',he,hp,hq⟩
  exact⟨v,he,hp.frm.below,hq⟩
end Go.Proofs.YtmhnalikebkhjaaGreatDoor

namespace Go.Proofs.YtmhnalikebkhjaaGreatDoor
open Go.Proofs.YtmhnalikebkhjaaGreatDoor.X Go.Proofs.YtmhnalikebkhjaaGreatDoor.X.PH Go.ChangeShapes Go.WideShapes Go.ChangeAt Go.RowKit Go.Deep
set_option maxRecDepth 100000
section
variable {H : Type} {enc : TypeId × Value → H} {W : World}
end
end Go.Proofs.YtmhnalikebkhjaaGreatDoor

namespace Go.Proofs.YtmhnalikebkhjaaGreatDoor
open Go.Proofs.YtmhnalikebkhjaaGreatDoor.X Go.Proofs.YtmhnalikebkhjaaGreatDoor.X.PH Go.ChangeShapes Go.WideShapes Go.ChangeAt Go.RowKit Go.Deep
set_option maxRecDepth 100000
section
variable {H : Type} {enc : TypeId × Value → H} {W : World}
end
end Go.Proofs.YtmhnalikebkhjaaGreatDoor

namespace Go.Proofs.YtmhnalikebkhjaaGreatDoor
open Go.Proofs.YtmhnalikebkhjaaGreatDoor.X Go.Proofs.YtmhnalikebkhjaaGreatDoor.X.PH Go.ChangeShapes Go.WideShapes Go.ChangeAt Go.RowKit Go.Deep
set_option maxRecDepth 100000
section
variable {H : Type} {enc : TypeId × Value → H} {W : World}
end
end Go.Proofs.YtmhnalikebkhjaaGreatDoor

namespace Go.Proofs.YtmhnalikebkhjaaGreatDoor
open Go.Proofs.YtmhnalikebkhjaaGreatDoor.X Go.Proofs.YtmhnalikebkhjaaGreatDoor.X.PH Go.ChangeShapes Go.WideShapes Go.ChangeAt Go.RowKit Go.Deep
set_option maxRecDepth 100000
section
variable {H : Type} {enc : TypeId × Value → H} {W : World}
end
end Go.Proofs.YtmhnalikebkhjaaGreatDoor

namespace Go.Proofs.YtmhnalikebkhjaaGreatDoor
open Go.Proofs.YtmhnalikebkhjaaGreatDoor.X Go.Proofs.YtmhnalikebkhjaaGreatDoor.X.PH Go.ChangeShapes Go.WideShapes Go.ChangeAt Go.RowKit Go.Deep
set_option maxRecDepth 100000
abbrev laid2 : List (String × DataW Unit) := [("spoondrift/spoondriftlaw06.root", Rows.laid_spoondrift_spoondriftlaw06_root), ("spoondrift/spoondriftlaw06.half", Rows.laid_spoondrift_spoondriftlaw06_half)]
theorem gRoot : Tryz.prog.globalNamed "spoondrift/spoondriftlaw06.root" = some 0 := by kernel_rfl
theorem gHalf : Tryz.prog.globalNamed "spoondrift/spoondriftlaw06.half" = some 1 := by kernel_rfl
theorem tRoot : (Tryz.prog.globals[0]?).map (·.type)=some 32:=by kernel_rfl
theorem tHalf : (Tryz.prog.globals[1]?).map (·.type)=some 32:=by kernel_rfl
theorem door_met (os : Os) (args:Array Value):laidMetH Tryz.prog laid2 ((World.doorLaid Tryz.prog 400 os).forCall (fun _ _=>0) ⟨#[],args,[]⟩).memory:=
  laidMetH_of_parts3 (fuel:=8) (laidMet_of_run' 8 (by kernel_rfl) (by kernel_rfl)) (by kernel_rfl) (by kernel_rfl)
section
variable {W : World}
theorem glob_num {fuel : Nat} {cs:List Value} {k0 k1 k2 k3 k4:Int} {p:List MemPlace} (h:DataW.trod (fun _=>()) Tryz.prog W 0 (fun _=>true) false fuel 32 cs=some (.agg [.lit (.int .i64 k0),.lit (.int .i64 k1),.lit (.int .i64 k2),.lit (.int .i64 k3),.lit (.int .i64 k4)],p)):cs=[.int .i64 k0,.int .i64 k1,.int .i64 k2,.int .i64 k3,.int .i64 k4]:=by
  obtain⟨xs,n,rfl,e,hl,hx,hf⟩:=DataW.trod_struct Tryz.underlying32 h
  rw[cells28] at hl
  have hx5:xs.length=5:=hx
  simp only[Prod.mk.injEq,DataW.agg.injEq] at e
  have he:=e.1
  have key : ∀ (i : Nat) (f : Field), #[{ name := "A", type := 3, offset := 0, embedded := false, tag := "", pkgPath := "", byteOffset := 0 : Field }, { name := "B", type := 3, offset := 1, embedded := false, tag := "", pkgPath := "", byteOffset := 8 }, { name := "C", type := 3, offset := 2, embedded := false, tag := "", pkgPath := "", byteOffset := 16 }, { name := "D", type := 3, offset := 3, embedded := false, tag := "", pkgPath := "", byteOffset := 24 }, { name := "K", type := 3, offset := 4, embedded := false, tag := "", pkgPath := "", byteOffset := 32 }][i]? = some f → f.type = 3 → f.offset = i → i < 5 → ∃ k, cs[i]? = some (.int .i64 k) ∧ ([DataW.lit (.int .i64 k0), .lit (.int .i64 k1), .lit (.int .i64 k2), .lit (.int .i64 k3), .lit (.int .i64 k4)] : List (DataW Unit))[i]? = some (.lit (.int .i64 k)) := by
    intro i f hfi ht ho hi
    have:=hf i f hfi
    rw[ht,ho,cells3] at this
    rw[List.getElem?_eq_getElem (by omega)] at this
    obtain⟨k,hk,e2,_⟩:=DataW.trod_int Tryz.underlying3 this
    refine⟨k,?_,?_⟩
    · have:=congrArg (·[0]?) hk
      simpa[List.getElem?_take,List.getElem?_drop] using this
    · rw[he,List.getElem?_map,List.getElem?_eq_getElem (by omega),e2]
      rfl
  obtain⟨q0,h0,i0⟩:=key 0 _ rfl rfl rfl (by decide)
  obtain⟨q1,h1,i1⟩:=key 1 _ rfl rfl rfl (by decide)
  obtain⟨q2,h2,i2⟩:=key 2 _ rfl rfl rfl (by decide)
  obtain⟨q3,h3,i3⟩:=key 3 _ rfl rfl rfl (by decide)
  obtain⟨q4,h4,i4⟩:=key 4 _ rfl rfl rfl (by decide)
  simp at i0 i1 i2 i3 i4
  subst i0 i1 i2 i3 i4
  match cs,hl with
  | [a,b,c,d,e],_=>
    simp at h0 h1 h2 h3 h4
    subst h0 h1 h2 h3 h4
    rfl
theorem glob_cell {g : Nat} {n:String} {cs:Array Value} {k:Int} (hg:Tryz.prog.globalNamed n=some g) (hv:W.var? Tryz.prog n=some cs) (hc:cs.toList=[.int .i64 1,.int .i64 0,.int .i64 0,.int .i64 0,.int .i64 k]):Rd (heapP W) emp ⟨g,0,none⟩ 5 [.int .i64 1,.int .i64 0,.int .i64 0,.int .i64 0,.int .i64 k]:=by
  obtain⟨l⟩:=cs
  have hc:l=[.int .i64 1,.int .i64 0,.int .i64 0,.int .i64 0,.int .i64 k]:=hc
  subst hc
  have c0:=World.var?_cell hg hv 0
  have c1:=World.var?_cell hg hv 1
  have c2:=World.var?_cell hg hv 2
  have c3:=World.var?_cell hg hv 3
  have c4:=World.var?_cell hg hv 4
  obtain⟨b,off,c,t,fr,e,hb,h0⟩:=one_block (v:=.int .i64 1) (by simpa using c0)
  cases e
  obtain⟨_,_,c',t',fr',e,hb',h1⟩:=one_block (v:=.int .i64 0) (by simpa using c1)
  cases e
  rw[hb] at hb';cases hb'
  obtain⟨_,_,c',t',fr',e,hb',h2⟩:=one_block (v:=.int .i64 0) (by simpa using c2)
  cases e
  rw[hb] at hb';cases hb'
  obtain⟨_,_,c',t',fr',e,hb',h3⟩:=one_block (v:=.int .i64 0) (by simpa using c3)
  cases e
  rw[hb] at hb';cases hb'
  obtain⟨_,_,c',t',fr',e,hb',h4⟩:=one_block (v:=.int .i64 k) (by simpa using c4)
  cases e
  rw[hb] at hb';cases hb'
  refine⟨rfl,rfl,c,t,fr,.inl hb,?_⟩
  apply List.ext_getElem?
  intro i
  rw[List.getElem?_take,List.drop_zero]
  match i with
  | 0=>simpa using h0
  | 1=>simpa using h1
  | 2=>simpa using h2
  | 3=>simpa using h3
  | 4=>simpa using h4
  | i+5=>
    simp
    omega
theorem glob_of_laid (h : laidMetH Tryz.prog laid2 W):GlobH (heapP W):=by
  rw[MakeChecks.laidMetH_plain _ _ _ (by kernel_rfl)] at h
  obtain⟨ps,⟨g0,t0,cs0,f0,p0,q0,hg0,ht0,hv0,hd0,⟨g1,t1,cs1,f1,p1,q1,hg1,ht1,hv1,hd1,_,_⟩,_⟩,_,_⟩:=h
  obtain rfl:=Option.some.inj (gRoot.symm.trans hg0)
  obtain rfl:=Option.some.inj (gHalf.symm.trans hg1)
  obtain rfl:=Option.some.inj (tRoot.symm.trans ht0)
  obtain rfl:=Option.some.inj (tHalf.symm.trans ht1)
  exact⟨glob_cell hg0 hv0 (glob_num hd0),glob_cell hg1 hv1 (glob_num hd1)⟩
end
section
variable {H : Type} {enc : TypeId × Value → H} {W : World}
end
end Go.Proofs.YtmhnalikebkhjaaGreatDoor

namespace Go.Proofs.YtmhnalikebkhjaaGreatDoor
open Go.Proofs.YtmhnalikebkhjaaGreatDoor.X Go.Proofs.YtmhnalikebkhjaaGreatDoor.X.PH Go.ChangeShapes Go.WideShapes Go.ChangeAt Go.RowKit Go.Deep
set_option maxRecDepth 100000
instance : Inhabited Gt := ⟨⟨0, [], 0, 0⟩⟩
section
variable {H : Type} {enc : TypeId × Value → H} {W : World}
end
end Go.Proofs.YtmhnalikebkhjaaGreatDoor
