/- A logic for code of the model, proved sound, and what functions do that the laws on matrices come to; nothing is asked. Part 8. -/
import Derived.Test.YtodmckckapmmoaaGreatDoorM7

set_option linter.unusedVariables false
set_option linter.unusedSimpArgs false
set_option linter.unnecessarySimpa false

namespace Go.Proofs.YtodmckckapmmoaaGreatDoor
open Go.Proofs.YtodmckckapmmoaaGreatDoor.X Go.Proofs.YtodmckckapmmoaaGreatDoor.X.PH
set_option maxRecDepth 100000
theorem e18L {B H O : PH} {l:List (Value × Mx)} {u v:Value} {x:Mx} (hl:OwnL B O l) (hm:(u,x)∈l) (hv:MatH H v x):Cl Tryz.prog 18 [u,v] H O fun r _ O'=>Sub O O'∧r=.bool true:=by
  have hq:=hl.mem hm
  have hlen:=hq.len
  have hent:=(e18 [] [] emp _ _ (nilM _) (nilM _) (by simp) (by simp)).ent
  have h:=Cl.share' (H:=H) (R:=O) (Q:=fun r=>r=.bool (eqM x x)) (show Ent Tryz.prog 18 from hent) (args:=[u,v]) fun hd=>e18 x x _ _ _ (hq.share hd) (hv.up un_l) hlen.1 hlen.2
  rw[eqM_refl] at h
  exact h
set_option maxHeartbeats 4000000 in
theorem e3 (l : Vec) (m n:Mx) (x y:P4 × Int) (k:Int) (hk:-9223372036854775808≤k∧k < 9223372036854775808) (hll:l.length < 9223372036854775808) (hlm:m.length < 9223372036854775808) (hln:n.length < 9223372036854775808) (H:PH) (v u w:Value) (hG:GlobH H) (hv:NumH H v l) (hu:MatH H u m) (hw:MatH H w n) :
    Cl Tryz.prog 3 [v,u,w,nv x,nv y,.int .i64 k] H emp fun r _ _=>r=.bool true:=by
  obtain⟨lb,lc,rfl,_⟩:=id hv
  obtain⟨ub,uc,rfl⟩:=MatH.sl hu
  obtain⟨wb,wc,rfl⟩:=MatH.sl hw
  refine Cl_of (pol:=fun | 35=>.imm | 36=>.imm | 37=>.imm | 116=>.own | _=>.loc) Γok Tryz.func3 (by kernel_rfl) rfl ?_
  conv=>whnf
  intro bx
  conv=>whnf
  intro bz
  conv=>whnf
  refine if_intro (fun h66=>?_) (fun h66=>?_)
  · conv=>whnf
    refine (e9 _ hG).val fun H1 s1=>?_
    conv=>whnf
  have h66:l.length≤66:=by
    have:=of_decide_eq_false h66
    omega
  conv=>whnf
  intro b hb _
  conv=>whnf
  have s1:=sub_ins H (.cells ⟨[.slice ub m.length uc,.slice wb n.length wc]⟩ 23 (0,0)) hb
  refine (e8 [m,n] _ _ (pair_mats (ins_same _ _ _) (hu.up s1) (hw.up s1)) (by simp) (by simp;omega)).val fun H1 s2=>?_
  have s12:=s1.trans s2
  replace hG:=GlobH.up hG s12
  replace hv:=NumH.up hv s12
  replace hu:=MatH.up hu s12
  replace hw:=MatH.up hw s12
  conv=>whnf
  refine if_intro (fun hg=>?_) (fun hg=>?_)
  · conv=>whnf
    refine (e9 _ hG).val fun H2 s3=>?_
    conv=>whnf
  rw[List.any_eq_false] at hg
  obtain⟨hm8,hmr⟩:=great_not (m:=m) (n:=8) (by simpa using hg m (by simp))
  obtain⟨hn8,hnr⟩:=great_not (m:=n) (n:=8) (by simpa using hg n (by simp))
  conv=>whnf
  refine (c43' l _ _ hv (by omega)).use fun p H2 s3 hp=>?_
  obtain⟨_,hp⟩:=hp
  obtain⟨pb,pc,rfl,_⟩:=id hp
  replace hG:=GlobH.up hG s3
  replace hv:=NumH.up hv s3
  replace hu:=MatH.up hu s3
  replace hw:=MatH.up hw s3
  conv=>whnf
  refine (c15' m _ _ hu (by omega) (fun r hr=>by have:=hmr r hr;omega)).use fun q H3 s4 hq=>?_
  obtain⟨_,hq⟩:=hq
  obtain⟨qb,qc,rfl⟩:=MatH.sl hq
  replace hG:=GlobH.up hG s4
  replace hv:=NumH.up hv s4
  replace hu:=MatH.up hu s4
  replace hw:=MatH.up hw s4
  replace hp:=NumH.up hp s4
  conv=>whnf
  refine (c15' n _ _ hw (by omega) (fun r hr=>by have:=hnr r hr;omega)).use fun t H4 s5 ht=>?_
  obtain⟨_,ht⟩:=ht
  obtain⟨tb,tc,rfl⟩:=MatH.sl ht
  replace hG:=GlobH.up hG s5
  replace hv:=NumH.up hv s5
  replace hu:=MatH.up hu s5
  replace hw:=MatH.up hw s5
  replace hp:=NumH.up hp s5
  replace hq:=MatH.up hq s5
  conv=>whnf
  refine (e12 l (by omega) _ _ hv).use fun r H6 s6 hr=>?_
  obtain⟨_,w1,rfl,hw1⟩:=hr
  replace hG:=GlobH.up hG s6
  replace hv:=NumH.up hv s6
  replace hu:=MatH.up hu s6
  replace hw:=MatH.up hw s6
  replace hp:=NumH.up hp s6
  replace hq:=MatH.up hq s6
  replace ht:=MatH.up ht s6
  conv=>whnf
  refine (e13 k hk _).use fun r H7 s7 hr=>?_
  obtain⟨_,w2,rfl,hw2⟩:=hr
  replace hG:=GlobH.up hG s7
  replace hv:=NumH.up hv s7
  replace hu:=MatH.up hu s7
  replace hw:=MatH.up hw s7
  replace hp:=NumH.up hp s7
  replace hq:=MatH.up hq s7
  replace ht:=MatH.up ht s7
  replace hw1:=MatH.up hw1 s7
  conv=>whnf
  refine (e14 m n x y _ _ _ hu hw).use fun r H8 s8 hr=>?_
  obtain⟨_,w3,rfl,hw3⟩:=hr
  replace hG:=GlobH.up hG s8
  replace hv:=NumH.up hv s8
  replace hu:=MatH.up hu s8
  replace hw:=MatH.up hw s8
  replace hp:=NumH.up hp s8
  replace hq:=MatH.up hq s8
  replace ht:=MatH.up ht s8
  replace hw1:=MatH.up hw1 s8
  replace hw2:=MatH.up hw2 s8
  conv=>whnf
  have k1:OwnL emp emp []:=Sub.refl _
  refine (k1.call (e15 l (by omega) _ _ hp)).mono fun r H9 O9 s9 hr=>?_
  obtain⟨a1,rfl,k2⟩:=hr
  replace hG:=GlobH.up hG s9
  replace hv:=NumH.up hv s9
  replace hu:=MatH.up hu s9
  replace hw:=MatH.up hw s9
  replace hp:=NumH.up hp s9
  replace hq:=MatH.up hq s9
  replace ht:=MatH.up ht s9
  replace hw1:=MatH.up hw1 s9
  replace hw2:=MatH.up hw2 s9
  replace hw3:=MatH.up hw3 s9
  conv=>whnf
  refine (k2.call (e16 k hk _)).mono fun r H10 O10 s10 hr=>?_
  obtain⟨a2,rfl,k3⟩:=hr
  replace hG:=GlobH.up hG s10
  replace hv:=NumH.up hv s10
  replace hu:=MatH.up hu s10
  replace hw:=MatH.up hw s10
  replace hp:=NumH.up hp s10
  replace hq:=MatH.up hq s10
  replace ht:=MatH.up ht s10
  replace hw1:=MatH.up hw1 s10
  replace hw2:=MatH.up hw2 s10
  replace hw3:=MatH.up hw3 s10
  conv=>whnf
  refine (k3.call (e17 m n x y (by omega) (by omega) _ _ _ hq ht)).mono fun r H11 O11 s11 hr=>?_
  obtain⟨a3,rfl,k4⟩:=hr
  replace hG:=GlobH.up hG s11
  replace hv:=NumH.up hv s11
  replace hu:=MatH.up hu s11
  replace hw:=MatH.up hw s11
  replace hp:=NumH.up hp s11
  replace hq:=MatH.up hq s11
  replace ht:=MatH.up ht s11
  replace hw1:=MatH.up hw1 s11
  replace hw2:=MatH.up hw2 s11
  replace hw3:=MatH.up hw3 s11
  conv=>whnf
  generalize ofV l=A1 at *
  generalize mixedI k=A2 at *
  generalize mixM m n x y=A3 at *
  replace k4:OwnL emp O11 [(a1,A1.1),(a2,A2.1),(a3,A3.1)]:=k4
  clear k1 k2 k3
  rw[bne_self_eq_false]
  conv=>whnf
  rw[bne_self_eq_false]
  conv=>whnf
  rw[bne_self_eq_false]
  conv=>whnf
  refine (e18L k4 (by simp) hw1).mono fun r H12 O12 s12 hr=>?_
  obtain⟨o1,rfl⟩:=hr
  replace k4:=k4.up o1
  replace hG:=GlobH.up hG s12
  replace hv:=NumH.up hv s12
  replace hu:=MatH.up hu s12
  replace hw:=MatH.up hw s12
  replace hp:=NumH.up hp s12
  replace hq:=MatH.up hq s12
  replace ht:=MatH.up ht s12
  replace hw1:=MatH.up hw1 s12
  replace hw2:=MatH.up hw2 s12
  replace hw3:=MatH.up hw3 s12
  conv=>whnf
  refine (e18L k4 (by simp) hw2).mono fun r H13 O13 s13 hr=>?_
  obtain⟨o2,rfl⟩:=hr
  replace k4:=k4.up o2
  replace hG:=GlobH.up hG s13
  replace hv:=NumH.up hv s13
  replace hu:=MatH.up hu s13
  replace hw:=MatH.up hw s13
  replace hp:=NumH.up hp s13
  replace hq:=MatH.up hq s13
  replace ht:=MatH.up ht s13
  replace hw1:=MatH.up hw1 s13
  replace hw2:=MatH.up hw2 s13
  replace hw3:=MatH.up hw3 s13
  conv=>whnf
  refine (e18L k4 (by simp) hw3).mono fun r H14 O14 s14 hr=>?_
  obtain⟨o3,rfl⟩:=hr
  replace k4:=k4.up o3
  replace hG:=GlobH.up hG s14
  replace hv:=NumH.up hv s14
  replace hu:=MatH.up hu s14
  replace hw:=MatH.up hw s14
  replace hp:=NumH.up hp s14
  replace hq:=MatH.up hq s14
  replace ht:=MatH.up ht s14
  replace hw1:=MatH.up hw1 s14
  replace hw2:=MatH.up hw2 s14
  replace hw3:=MatH.up hw3 s14
  conv=>whnf
  obtain⟨y1,y2,y3,rfl⟩:=(k4.mem (u:=a1) (x:=A1.1) (by simp)).sl
  obtain⟨z1,z2,z3,rfl⟩:=(k4.mem (u:=a2) (x:=A2.1) (by simp)).sl
  obtain⟨v1,v2,v3,rfl⟩:=(k4.mem (u:=a3) (x:=A3.1) (by simp)).sl
  conv=>whnf
  intro bs _ hbs
  replace k4:=k4.ins (o:=.cells ⟨[.slice y1 y2 y3,.slice z1 z2 z3,.slice v1 v2 v3]⟩ 23 (0,0)) hbs
  conv=>whnf
  refine W_loop (pol:=polL) Γok (Nat × PH × PH) (fun i=>i.1≤3∧Sub H14 i.2.1∧OwnL (ins emp bs (.cells ⟨[.slice y1 y2 y3,.slice z1 z2 z3,.slice v1 v2 v3]⟩ 23 (0,0))) i.2.2 (List.drop i.1 [(.slice y1 y2 y3,A1.1),(.slice z1 z2 z3,A2.1),(.slice v1 v2 v3,A3.1)])) (fun i=>3 - i.1) (fun i=>[(118,.v (.int .i64 i.1))]) (fun _=>[]) (fun i=>i.2.1) (fun i=>i.2.2) ⟨(0,H14,_),⟨by simp,Sub.refl _,k4⟩,rfl,rfl,?_⟩ ?_
  · conv=>whnf
    repeat (refine⟨rfl,?_⟩;conv=>whnf)
    exact trivial
  rintro ⟨i,H16,O16⟩ ⟨h1,t9,k6⟩
  dsimp only at h1 t9 k6
  rcases (show i=0∨i=1∨i=2∨i=3 by omega) with rfl | rfl | rfl | rfl
  · conv=>whnf
    refine⟨[.slice y1 y2 y3],⟨rfl,rfl,_,_,_,.inr (k6.rem _ _ (ins_same _ _ _)),rfl⟩,?_⟩
    conv=>whnf
    refine (c24L k6).mono fun r H17 O17 t10 k7=>?_
    conv=>whnf
    refine⟨(1,H17,O17),⟨by dsimp only;omega,t9.trans t10,k7⟩,by dsimp only;omega,?_⟩
    conv=>whnf
    refine⟨rfl,rfl,?_⟩
    conv=>whnf
    repeat (refine⟨rfl,?_⟩;conv=>whnf)
    exact trivial
  · conv=>whnf
    refine⟨[.slice z1 z2 z3],⟨rfl,rfl,_,_,_,.inr (k6.rem _ _ (ins_same _ _ _)),rfl⟩,?_⟩
    conv=>whnf
    refine (c24L k6).mono fun r H17 O17 t10 k7=>?_
    conv=>whnf
    refine⟨(2,H17,O17),⟨by dsimp only;omega,t9.trans t10,k7⟩,by dsimp only;omega,?_⟩
    conv=>whnf
    refine⟨rfl,rfl,?_⟩
    conv=>whnf
    repeat (refine⟨rfl,?_⟩;conv=>whnf)
    exact trivial
  · conv=>whnf
    refine⟨[.slice v1 v2 v3],⟨rfl,rfl,_,_,_,.inr (k6.rem _ _ (ins_same _ _ _)),rfl⟩,?_⟩
    conv=>whnf
    refine (c24L k6).mono fun r H17 O17 t10 k7=>?_
    conv=>whnf
    refine⟨(3,H17,O17),⟨by dsimp only;omega,t9.trans t10,k7⟩,by dsimp only;omega,?_⟩
    conv=>whnf
    refine⟨rfl,rfl,?_⟩
    conv=>whnf
    repeat (refine⟨rfl,?_⟩;conv=>whnf)
    exact trivial
  conv=>whnf
  replace hG:=GlobH.up hG t9
  replace hv:=NumH.up hv t9
  replace hu:=MatH.up hu t9
  replace hw:=MatH.up hw t9
  replace hp:=NumH.up hp t9
  replace hq:=MatH.up hq t9
  replace ht:=MatH.up ht t9
  replace hw1:=MatH.up hw1 t9
  replace hw2:=MatH.up hw2 t9
  replace hw3:=MatH.up hw3 t9
  have hl1:=c48 l l _ _ _ hp hv (by omega)
  rw[eqL_refl] at hl1
  refine hl1.val fun H20 t13=>?_
  replace hG:=GlobH.up hG t13
  replace hv:=NumH.up hv t13
  replace hu:=MatH.up hu t13
  replace hw:=MatH.up hw t13
  replace hp:=NumH.up hp t13
  replace hq:=MatH.up hq t13
  replace ht:=MatH.up ht t13
  replace hw1:=MatH.up hw1 t13
  replace hw2:=MatH.up hw2 t13
  replace hw3:=MatH.up hw3 t13
  conv=>whnf
  have hs1:=e18 m m _ _ _ hq hu (by omega) (fun r hr=>by have:=hmr r hr;omega)
  rw[eqM_refl] at hs1
  refine hs1.val fun H21 t14=>?_
  replace hG:=GlobH.up hG t14
  replace hv:=NumH.up hv t14
  replace hu:=MatH.up hu t14
  replace hw:=MatH.up hw t14
  replace hp:=NumH.up hp t14
  replace hq:=MatH.up hq t14
  replace ht:=MatH.up ht t14
  replace hw1:=MatH.up hw1 t14
  replace hw2:=MatH.up hw2 t14
  replace hw3:=MatH.up hw3 t14
  conv=>whnf
  have hs2:=e18 n n _ _ _ ht hw (by omega) (fun r hr=>by have:=hnr r hr;omega)
  rw[eqM_refl] at hs2
  refine hs2.val fun H22 t15=>?_
  replace hG:=GlobH.up hG t15
  replace hv:=NumH.up hv t15
  replace hu:=MatH.up hu t15
  replace hw:=MatH.up hw t15
  replace hp:=NumH.up hp t15
  replace hq:=MatH.up hq t15
  replace ht:=MatH.up ht t15
  replace hw1:=MatH.up hw1 t15
  replace hw2:=MatH.up hw2 t15
  replace hw3:=MatH.up hw3 t15
  conv=>whnf
  refine (e9 _ hG).val fun H23 t16=>?_
  conv=>whnf
end Go.Proofs.YtodmckckapmmoaaGreatDoor

namespace Go.Proofs.YtodmckckapmmoaaGreatDoor
open Go.Proofs.YtodmckckapmmoaaGreatDoor.X Go.Proofs.YtodmckckapmmoaaGreatDoor.X.PH
set_option maxRecDepth 100000
theorem fit_great {c : Ct} (h:greatC c=false):c.fit:=by
  unfold greatC at h
  rw[Bool.or_eq_false_iff] at h
  obtain⟨h1,h2⟩:=h
  refine⟨?_,fun g hg=>?_⟩
  · have:=of_decide_eq_false h1
    omega
  · have:=List.any_eq_false.1 h2 g hg
    unfold bigG at this
    simp at this
    omega
theorem e41o (c : Ct) (m:Mx) (hc:c.fit) (hm:m.length < 1000000) (H:PH) (v u:Value) (hv:CircH H v c) (hu:MatH H u m):Cl Tryz.prog 41 [v,u] H emp fun r H' M'=>∃ b us,r=.tuple #[.slice b us.length us.length,.int .i64 (runM c m).2]∧(us=[]∨∃ hb,b=some ⟨hb,0,none⟩∧H' hb=some (.cells ⟨us⟩ 23 (0,0)))∧us.length=(runM c m).1.length∧OwnL emp M' (us.zip (runM c m).1):=
  (Cl.own (e41 c m hc hm H v u hv hu)).repart fun r H2 M2 _ d hq=>by
    obtain⟨rfl,H',M',hq,hs,hd,hM,hn⟩:=hq
    rcases hq with⟨h1,rfl⟩ | ⟨us,hb,rfl,h2,h3⟩
    · refine⟨_,_,.refl d,none,[],rfl,.inl rfl,by simp[h1],?_⟩
      exact fun n o h=>by cases h
    · refine⟨_,_,.one d (hM _ _ h2),some ⟨hb,0,none⟩,us,rfl,.inr ⟨hb,rfl,ins_same _ _ _⟩,h3.1,h3.2.up fun n o hno=>?_⟩
      unfold newH at hno
      cases e:H2 n with
      | some o'=>rw[e] at hno;cases hno
      | none=>
        rw[e] at hno
        have hne:n ≠ hb:=fun e'=>by
          subst e'
          have:=(hd n).resolve_right (by rw[h2];simp)
          rw[this] at hno
          cases hno
        rw[del_ne _ hne]
        exact hn n o e hno
theorem runG_nil (n : Int):∀ (gs:List Gt) (l:List Mx),(runG n gs l).2 ≠ 0→(runG n gs l).1=[]
  | [],l,h=>absurd rfl h
  | g::gs,l,h=>by
    unfold runG at h ⊢
    split
    · rfl
    · rename_i h'
      rw[if_neg h'] at h
      exact runG_nil n gs _ h
theorem run_len (c : Ct) (m:Mx):(runM c m).1.length < 1000000:=by
  by_cases h:(runM c m).2=0
  · obtain⟨n,q,hn,hq,hl,_⟩:=run_all h
    have hQ:2 ^ q≤16:=Nat.pow_le_pow_right (by decide) (by omega:q≤4)
    omega
  · unfold runM at h ⊢
    split
    · exact (by decide:0 < 1000000)
    · rename_i h'
      rw[if_neg h'] at h
      rw[runG_nil _ _ _ h]
      exact (by decide:0 < 1000000)
theorem rd_at {H H' O : PH} {b i:Nat} {us:List Value} {t:TypeId} (hb:H b=some (.cells ⟨us⟩ t (0,0))) (hi:i < us.length) (hs:Sub H H'):Rd H' O ⟨b,0+i*1,none⟩ 1 [us[i]]:=by
  refine⟨rfl,rfl,_,_,_,.inl (hs _ _ hb),?_⟩
  dsimp only
  rw[Nat.zero_add,Nat.mul_one,List.drop_eq_getElem_cons hi]
  rfl
theorem OwnL.mats {H O : PH} {b:Option Addr} {us:List Value} {l:List Mx} {rest:List (Value × Mx)} (hl:us.length=l.length) (ha:us=[]∨∃ hb,b=some ⟨hb,0,none⟩∧H hb=some (.cells ⟨us⟩ 23 (0,0))) (k:OwnL emp O (us.zip l++rest)) (hd:Dis H O):MatsH (un H O) (.slice b us.length us.length) l:=by
  have hv:MatV (un H O) us l:=by
    refine⟨hl,fun i m u hm hu=>?_⟩
    have hmem:(u,m)∈us.zip l++rest:=List.mem_append_left _ (List.mem_iff_getElem?.2 ⟨i,by rw[List.getElem?_zip_eq_some];exact⟨hu,hm⟩⟩)
    exact (k.mem hmem).share hd
  rcases ha with rfl | ⟨hb,rfl,hH⟩
  · have:l=[]:=List.length_eq_zero_iff.1 hl.symm
    subst this
    exact⟨[],rfl,⟨_,_,rfl,.inl ⟨rfl,rfl⟩⟩,fun i m u h=>by simp at h⟩
  · exact hv.mats (sub_un _ _ _ _ hH)
theorem e43L {H O : PH} {b:Option Addr} {us:List Value} {l:List Mx} {rest:List (Value × Mx)} {v:Value} (hl:us.length=l.length) (ha:us=[]∨∃ hb,b=some ⟨hb,0,none⟩∧H hb=some (.cells ⟨us⟩ 23 (0,0))) (k:OwnL emp O (us.zip l++rest)) (hlt:us.length < 1000000) (hv:MatsH H v l):Cl Tryz.prog 43 [.slice b us.length us.length,v,.func (.func 18) ⟨[]⟩ ⟨[]⟩] H O fun r _ O'=>Sub O O'∧r=.bool true:=by
  have hent:=(e43 [] (by simp) (by simp) emp _ _ ⟨[],rfl,⟨none,0,rfl,.inl ⟨rfl,rfl⟩⟩,fun i m u h=>by simp at h⟩ ⟨[],rfl,⟨none,0,rfl,.inl ⟨rfl,rfl⟩⟩,fun i m u h=>by simp at h⟩).ent
  refine Cl.share' (H:=H) (R:=O) (Q:=fun r=>r=.bool true) hent fun hd=>e43 l (by omega) (fun m hm=>?_) _ _ _ (k.mats hl ha hd) (hv.up un_l)
  obtain⟨i,hi,rfl⟩:=List.mem_iff_getElem.1 hm
  have hmem:(us[i]'(by omega),l[i])∈us.zip l++rest:=List.mem_append_left _ (List.mem_iff_getElem.2 ⟨i,by rw[List.length_zip];omega,by simp⟩)
  exact (k.mem hmem).len
set_option maxHeartbeats 4000000 in
theorem e5 (c : Ct) (m:Mx) (hc0:c.gates.length < 9223372036854775808) (hlm:m.length < 9223372036854775808) (H:PH) (v u:Value) (hG:GlobH H) (hv:CircH H v c) (hu:MatH H u m):Cl Tryz.prog 5 [v,u] H emp fun r _ _=>r=.bool true:=by
  obtain⟨gb,gc,rfl,hgs⟩:=hv.sl
  obtain⟨ub,uc,rfl⟩:=MatH.sl hu
  refine Cl_of (pol:=fun | 21=>.imm | _=>.loc) Γok Tryz.func5 (by kernel_rfl) rfl ?_
  conv=>whnf
  intro bx
  conv=>whnf
  refine (d31 c (by omega) _ _ hv).val fun H1 s1=>?_
  replace hG:=GlobH.up hG s1
  replace hv:=CircH.up hv s1
  replace hu:=MatH.up hu s1
  conv=>whnf
  refine if_intro (fun hg=>?_) (fun hg=>?_)
  · conv=>whnf
    refine (e9 _ hG).val fun H2 s3=>?_
    conv=>whnf
  have hfit:=fit_great hg
  conv=>whnf
  intro b hb _
  conv=>whnf
  have s2:=sub_ins H1 (.cells ⟨[.slice ub m.length uc]⟩ 23 (0,0)) hb
  refine (e8 [m] _ _ (one_mats (ins_same _ _ _) (hu.up s2)) (by simp) (by simp;omega)).val fun H2 s3=>?_
  have s23:=s2.trans s3
  replace hG:=GlobH.up hG s23
  replace hv:=CircH.up hv s23
  replace hu:=MatH.up hu s23
  conv=>whnf
  refine if_intro (fun hg2=>?_) (fun hg2=>?_)
  · conv=>whnf
    refine (e9 _ hG).val fun H3 s4=>?_
    conv=>whnf
  rw[List.any_eq_false] at hg2
  obtain⟨hm8,hmr⟩:=great_not (m:=m) (n:=8) (by simpa using hg2 m (by simp))
  conv=>whnf
  refine (d10 c hfit _ _ hv).use fun x H3 s4 hx=>?_
  obtain⟨_,hx⟩:=hx
  obtain⟨xb,xc,rfl,hxs⟩:=hx.sl
  replace hG:=GlobH.up hG s4
  replace hv:=CircH.up hv s4
  replace hu:=MatH.up hu s4
  conv=>whnf
  refine (c15' m _ _ hu (by omega) (fun r hr=>by have:=hmr r hr;omega)).use fun y H4 s5 hy=>?_
  obtain⟨_,hy⟩:=hy
  obtain⟨yb,yc,rfl⟩:=MatH.sl hy
  replace hG:=GlobH.up hG s5
  replace hv:=CircH.up hv s5
  replace hu:=MatH.up hu s5
  replace hx:=CircH.up hx s5
  conv=>whnf
  intro b5
  conv=>whnf
  refine (e39 c m hfit _ _ _ hv hu).use fun r H5 s6 hr=>?_
  obtain⟨_,w1,rfl,hw1⟩:=hr
  replace hG:=GlobH.up hG s6
  replace hv:=CircH.up hv s6
  replace hu:=MatH.up hu s6
  replace hx:=CircH.up hx s6
  replace hy:=MatH.up hy s6
  conv=>whnf
  refine (e40 c m hfit _ _ _ hv hu).use fun r H6 s7 hr=>?_
  obtain⟨_,w2,rfl,hw2⟩:=hr
  replace hG:=GlobH.up hG s7
  replace hv:=CircH.up hv s7
  replace hu:=MatH.up hu s7
  replace hx:=CircH.up hx s7
  replace hy:=MatH.up hy s7
  replace hw1:=MatsH.up hw1 s7
  conv=>whnf
  refine (e41o c m hfit (by omega) _ _ _ hx hy).mono fun r H7 O7 s8 hr=>?_
  obtain⟨ab,us,rfl,ha,hul,k1⟩:=hr
  replace hG:=GlobH.up hG s8
  replace hv:=CircH.up hv s8
  replace hu:=MatH.up hu s8
  replace hx:=CircH.up hx s8
  replace hy:=MatH.up hy s8
  replace hw1:=MatsH.up hw1 s8
  replace hw2:=MatH.up hw2 s8
  conv=>whnf
  refine (k1.call (e42 c m hfit (by omega) _ _ _ hx hy)).mono fun r H8 O8 s9 hr=>?_
  obtain⟨wb,rfl,k2⟩:=hr
  replace hG:=GlobH.up hG s9
  replace hv:=CircH.up hv s9
  replace hu:=MatH.up hu s9
  replace hx:=CircH.up hx s9
  replace hy:=MatH.up hy s9
  replace hw1:=MatsH.up hw1 s9
  replace hw2:=MatH.up hw2 s9
  replace ha:us=[]∨∃ hb,ab=some ⟨hb,0,none⟩∧H8 hb=some (.cells ⟨us⟩ 23 (0,0)):=ha.imp id fun ⟨hb,h1,h2⟩=>⟨hb,h1,s9 _ _ h2⟩
  have hrl:=run_len c m
  generalize runM c m=A1 at *
  generalize wholeM c m=A2 at *
  conv=>whnf
  rw[bne_self_eq_false]
  conv=>whnf
  rw[bne_self_eq_false]
  conv=>whnf
  refine (e43L hul ha k2 (by rw[hul];exact hrl) hw1).mono fun r H9 O9 s10 hr=>?_
  obtain⟨o1,rfl⟩:=hr
  replace k2:=k2.up o1
  replace hG:=GlobH.up hG s10
  replace hv:=CircH.up hv s10
  replace hu:=MatH.up hu s10
  replace hx:=CircH.up hx s10
  replace hy:=MatH.up hy s10
  replace hw1:=MatsH.up hw1 s10
  replace hw2:=MatH.up hw2 s10
  replace ha:us=[]∨∃ hb,ab=some ⟨hb,0,none⟩∧H9 hb=some (.cells ⟨us⟩ 23 (0,0)):=ha.imp id fun ⟨hb,h1,h2⟩=>⟨hb,h1,s10 _ _ h2⟩
  conv=>whnf
  refine (e18L k2 (by simp) hw2).mono fun r H10 O10 s11 hr=>?_
  obtain⟨o2,rfl⟩:=hr
  replace k2:=k2.up o2
  replace hG:=GlobH.up hG s11
  replace hv:=CircH.up hv s11
  replace hu:=MatH.up hu s11
  replace hx:=CircH.up hx s11
  replace hy:=MatH.up hy s11
  replace hw1:=MatsH.up hw1 s11
  replace hw2:=MatH.up hw2 s11
  replace ha:us=[]∨∃ hb,ab=some ⟨hb,0,none⟩∧H10 hb=some (.cells ⟨us⟩ 23 (0,0)):=ha.imp id fun ⟨hb,h1,h2⟩=>⟨hb,h1,s11 _ _ h2⟩
  conv=>whnf
  refine W_loop (pol:=polL) Γok (Nat × PH × PH) (fun i=>i.1≤us.length∧Sub H10 i.2.1∧OwnL emp i.2.2 ((us.zip A1.1).drop i.1++[(wb,A2.1)])) (fun i=>us.length - i.1) (fun i=>[(75,.v (.int .i64 i.1))]) (fun _=>[]) (fun i=>i.2.1) (fun i=>i.2.2) ⟨(0,H10,O10),⟨by simp,Sub.refl _,k2⟩,rfl,rfl,?_⟩ ?_
  · conv=>whnf
    repeat (refine⟨rfl,?_⟩;conv=>whnf)
    exact trivial
  rintro ⟨i,H11,O11⟩ ⟨h1,t9,k6⟩
  dsimp only at h1 t9 k6
  conv=>whnf
  refine if_intro (fun hci=>?_) (fun hci=>?_)
  · have hi:i < us.length:=by
      have:=of_decide_eq_true hci
      omega
    rcases ha with rfl | ⟨hb',rfl,hH⟩
    · cases hi
    have hzi:i < (us.zip A1.1).length:=by rw[List.length_zip];omega
    have hz:(us.zip A1.1)[i]=(us[i],A1.1[i]'(by omega)):=by simp
    rw[List.drop_eq_getElem_cons hzi,hz] at k6
    obtain⟨y1,y2,y3,ey⟩:=(k6.mem (u:=us[i]) (x:=A1.1[i]'(by omega)) (by simp)).sl
    conv=>whnf
    refine dec_intro (by omega) ?_
    conv=>whnf
    refine⟨_,rd_at hH hi t9,?_⟩
    rw[ey]
    conv=>whnf
    rw[← ey]
    refine (c24L k6).mono fun r H12 O12 t10 k7=>?_
    conv=>whnf
    refine⟨(i+1,H12,O12),⟨hi,t9.trans t10,k7⟩,by dsimp only;omega,?_⟩
    refine⟨rfl,rfl,?_⟩
    conv=>whnf
    repeat (refine⟨rfl,?_⟩;conv=>whnf)
    refine⟨by show En.v (.int .i64 (IntKind.i64.wrap (i+1)))=_;rw[wrap_id (by omega) (by omega)];rfl,?_⟩
    conv=>whnf
    repeat (refine⟨rfl,?_⟩;conv=>whnf)
    exact trivial
  have hi:i=us.length:=by
    have:=of_decide_eq_false hci
    omega
  subst hi
  rw[List.drop_of_length_le (by rw[List.length_zip];omega)] at k6
  dsimp only
  conv=>whnf
  refine (c24L k6).mono fun r H12 O12 t10 k7=>?_
  replace hG:=GlobH.up hG t9
  replace hv:=CircH.up hv t9
  replace hu:=MatH.up hu t9
  replace hx:=CircH.up hx t9
  replace hy:=MatH.up hy t9
  replace hw1:=MatsH.up hw1 t9
  replace hw2:=MatH.up hw2 t9
  replace hG:=GlobH.up hG t10
  replace hv:=CircH.up hv t10
  replace hu:=MatH.up hu t10
  replace hx:=CircH.up hx t10
  replace hy:=MatH.up hy t10
  replace hw1:=MatsH.up hw1 t10
  replace hw2:=MatH.up hw2 t10
  conv=>whnf
  have hc2:=d22 c c hfit _ _ _ hx hv
  rw[beq_self_eq_true,beq_self_eq_true,decide_eq_true rfl] at hc2
  refine hc2.val fun H20 t13=>?_
  replace hG:=GlobH.up hG t13
  replace hv:=CircH.up hv t13
  replace hu:=MatH.up hu t13
  replace hx:=CircH.up hx t13
  replace hy:=MatH.up hy t13
  replace hw1:=MatsH.up hw1 t13
  replace hw2:=MatH.up hw2 t13
  conv=>whnf
  have hs1:=e18 m m _ _ _ hy hu (by omega) (fun r hr=>by have:=hmr r hr;omega)
  rw[eqM_refl] at hs1
  refine hs1.val fun H21 t14=>?_
  replace hG:=GlobH.up hG t14
  replace hv:=CircH.up hv t14
  replace hu:=MatH.up hu t14
  replace hx:=CircH.up hx t14
  replace hy:=MatH.up hy t14
  replace hw1:=MatsH.up hw1 t14
  replace hw2:=MatH.up hw2 t14
  conv=>whnf
  refine (e9 _ hG).val fun H23 t16=>?_
  conv=>whnf
end Go.Proofs.YtodmckckapmmoaaGreatDoor

namespace Go.Proofs.YtodmckckapmmoaaGreatDoor
open Go.Proofs.YtodmckckapmmoaaGreatDoor.X Go.Proofs.YtodmckckapmmoaaGreatDoor.X.PH Go.ChangeShapes Go.WideShapes Go.ChangeAt Go.RowKit Go.Deep
set_option maxRecDepth 100000
theorem addr_add (b off n : Nat):(⟨b,off,none⟩:Addr).add n=⟨b,off+n,none⟩:=by
  unfold Addr.add
  split
  · rename_i h;rw[h];rfl
  · rfl
instance : Inhabited Gt := ⟨⟨0, [], 0, 0⟩⟩
section
variable {H : Type} {enc : TypeId × Value → H} {W : World}
theorem open_intsV {fuel : Nat} {cs:List Value} {x:DataW H × List MemPlace} (h:DataW.trod enc Tryz.prog W 0 (fun _=>true) true fuel 40 cs=some x):∃ w l,cs=[w]∧IntsC (heapP W) w l∧l.length≤maxLen:=by
  obtain⟨d,p⟩:=x
  rcases open_slice Tryz.underlying40 h with⟨rfl,_⟩ | ⟨a,len,cap,m,n,D,Pl,rfl,_⟩
  · obtain⟨l,h1,h2⟩:=open_intsC (d:=d) (p:=p) ⟨fuel,h⟩
    exact⟨_,l,rfl,h1,h2⟩
  · obtain⟨l,h1,h2⟩:=open_intsC (d:=d) (p:=p) ⟨fuel,h⟩
    exact⟨_,l,rfl,h1,h2⟩
theorem cells57 : Tryz.prog.cellsOf 42=4:=by kernel_rfl
theorem cells24 : Tryz.prog.cellsOf 56=3:=by kernel_rfl
theorem cells26 : Tryz.prog.cellsOf 40=1:=by kernel_rfl
theorem cells22 : Tryz.prog.cellsOf 54=1:=by kernel_rfl
theorem open_gateC {fuel : Nat} {cs:List Value} {x:DataW H × List MemPlace} (h:DataW.trod enc Tryz.prog W 0 (fun _=>true) true fuel 42 cs=some x):∃ (g:Gt) (w:Value),cs=[.int .i64 g.kind,w,.int .i64 g.bit,.int .i64 g.cond]∧IntsC (heapP W) w g.ws∧g.ws.length≤maxLen:=by
  obtain⟨xs,n,rfl,rfl,hl,hx,hf⟩:=DataW.trod_struct Tryz.underlying42 h
  rw[cells57] at hl
  have hx4:xs.length=4:=hx
  have h0:DataW.trod enc Tryz.prog W 0 (fun _=>true) true n 3 ((cs.drop 0).take (Tryz.prog.cellsOf 3))=xs[0]?:=hf 0 _ rfl
  have h1:DataW.trod enc Tryz.prog W 0 (fun _=>true) true n 40 ((cs.drop 1).take (Tryz.prog.cellsOf 40))=xs[1]?:=hf 1 _ rfl
  have h2:DataW.trod enc Tryz.prog W 0 (fun _=>true) true n 3 ((cs.drop 2).take (Tryz.prog.cellsOf 3))=xs[2]?:=hf 2 _ rfl
  have h3:DataW.trod enc Tryz.prog W 0 (fun _=>true) true n 3 ((cs.drop 3).take (Tryz.prog.cellsOf 3))=xs[3]?:=hf 3 _ rfl
  rw[cells3,List.getElem?_eq_getElem (by omega)] at h0 h2 h3
  rw[cells26,List.getElem?_eq_getElem (by omega)] at h1
  match cs,hl with
  | [a,b,c,d],_=>
    obtain⟨k0,e0,_⟩:=DataW.trod_int Tryz.underlying3 h0
    obtain⟨w,l,e1,hw,hb⟩:=open_intsV h1
    obtain⟨k2,e2,_⟩:=DataW.trod_int Tryz.underlying3 h2
    obtain⟨k3,e3,_⟩:=DataW.trod_int Tryz.underlying3 h3
    simp at e0 e1 e2 e3
    subst e0 e1 e2 e3
    exact⟨⟨k0,l,k2,k3⟩,_,rfl,hw,hb⟩
theorem open_gatesC {fuel : Nat} {cs:List Value} {x:DataW H × List MemPlace} (h:DataW.trod enc Tryz.prog W 0 (fun _=>true) true fuel 54 cs=some x):∃ (w:Value) (gs:List Gt),cs=[w]∧GatesH (heapP W) w gs∧gs.length≤maxLen∧∀ g∈gs,g.ws.length≤maxLen:=by
  rcases open_slice Tryz.underlying54 h with⟨rfl,_⟩ | ⟨a,len,cap,m,n,D,Pl,rfl,_,hl,hmax,hm,_,hx⟩
  · exact⟨_,[],rfl,⟨[],rfl,⟨(fun c h=>by cases h),none,0,rfl,.inl ⟨rfl,rfl⟩⟩,fun i g c h=>by simp at h⟩,by simp,fun g h=>by cases h⟩
  simp only[if_true] at hm
  rw[cells57] at hx
  obtain⟨f,hf⟩:=choose_lt (α:=Gt × Value) (n:=len) (p:=fun i y=>W.cells? 0 (a.add (i*4)) 4=some [.int .i64 y.1.kind,y.2,.int .i64 y.1.bit,.int .i64 y.1.cond]∧IntsC (heapP W) y.2 y.1.ws∧y.1.ws.length≤maxLen) (fun i hi=>by
    obtain⟨cs',h1,h2⟩:=hx i (by omega)
    obtain⟨g,w,rfl,hw,hb⟩:=open_gateC h2
    exact⟨(g,w),h1,hw,hb⟩)
  have hlen:((List.range len).map fun i=>(f i).1).length=len:=by simp
  have hmem:∀ g∈(List.range len).map fun i=>(f i).1,g.ws.length≤maxLen:=fun g hg=>by
    obtain⟨i,hi,rfl⟩:=List.mem_map.1 hg
    exact (hf i (List.mem_range.1 hi)).2.2
  have hget:∀ (i:Nat) g c,((List.range len).map fun i=>(f i).1)[i]?=some g→((List.range len).map fun i=>[Value.int .i64 (f i).1.kind,(f i).2,.int .i64 (f i).1.bit,.int .i64 (f i).1.cond])[i]?=some c→GateC (heapP W) g c:=fun i g c h1 h2=>by
    have hi:i < len:=by
      have:=(List.getElem?_eq_some_iff.1 h1).1
      simpa using this
    rw[List.getElem?_map,List.getElem?_range hi] at h1 h2
    cases h1;cases h2
    exact⟨_,rfl,(hf i hi).2.1⟩
  refine⟨_,(List.range len).map fun i=>(f i).1,rfl,⟨(List.range len).map fun i=>[Value.int .i64 (f i).1.kind,(f i).2,.int .i64 (f i).1.bit,.int .i64 (f i).1.cond],by simp,⟨fun c hc=>?_,some a,cap,by simp,?_⟩,hget⟩,by rw[hlen];omega,hmem⟩
  · obtain⟨i,_,rfl⟩:=List.mem_map.1 hc
    rfl
  rcases Nat.eq_zero_or_pos len with h0 | hpos
  · subst h0
    exact .inl ⟨rfl,rfl⟩
  obtain⟨b,off,c,t,fr,ha,hH,_⟩:=cells_block (hf 0 hpos).1 (by decide)
  have ha':a=⟨b,off,none⟩:=by
    rw[Nat.zero_mul] at ha
    exact ha
  subst ha'
  refine .inr ⟨b,off,c,t,fr,rfl,hH,?_⟩
  have hfam:=take_fam 4 (fun y:Gt × Value=>[Value.int .i64 y.1.kind,y.2,.int .i64 y.1.bit,.int .i64 y.1.cond]) f (fun _=>rfl) (c.toList.drop off) len fun i hi=>by
    obtain⟨b',off',c',t',fr',ha',hH',hc⟩:=cells_block (hf i hi).1 (by decide)
    rw[addr_add] at ha'
    cases ha'
    rw[hH] at hH'
    cases hH'
    rw[List.drop_drop]
    exact hc
  have hfl:(((List.range len).map fun i=>[Value.int .i64 (f i).1.kind,(f i).2,.int .i64 (f i).1.bit,.int .i64 (f i).1.cond]).flatten).length=len*4:=by
    rw[flat_length (sz:=4) fun c hc=>by obtain⟨i,_,rfl⟩:=List.mem_map.1 hc;rfl]
    simp
  rw[hfl]
  exact hfam
theorem open_circ {r : Reach} {base:Nat} {v:Value} {d:DataW H} {p:List MemPlace} (hv:Value.okWide Tryz.prog W r base 56 v) (h:DataW.Trod enc Tryz.prog W 0 (fun _=>true) true 56 v d p):∃ (c:Ct) (w:Value),v=cv c w∧GatesH (heapP W) w c.gates∧c.gates.length≤maxLen:=by
  obtain⟨cs,rfl,_⟩:=okWide_struct Tryz.underlying56 hv
  obtain⟨fuel,h⟩:=h
  obtain⟨cs⟩:=cs
  have h:DataW.trod enc Tryz.prog W 0 (fun _=>true) true fuel 56 cs=some (d,p):=h
  obtain⟨xs,n,rfl,_,hl,hx,hf⟩:=DataW.trod_struct Tryz.underlying56 h
  rw[cells24] at hl
  have hx3:xs.length=3:=hx
  have h0:DataW.trod enc Tryz.prog W 0 (fun _=>true) true n 3 ((cs.drop 0).take (Tryz.prog.cellsOf 3))=xs[0]?:=hf 0 _ rfl
  have h1:DataW.trod enc Tryz.prog W 0 (fun _=>true) true n 3 ((cs.drop 1).take (Tryz.prog.cellsOf 3))=xs[1]?:=hf 1 _ rfl
  have h2:DataW.trod enc Tryz.prog W 0 (fun _=>true) true n 54 ((cs.drop 2).take (Tryz.prog.cellsOf 54))=xs[2]?:=hf 2 _ rfl
  rw[cells3,List.getElem?_eq_getElem (by omega)] at h0 h1
  rw[cells22,List.getElem?_eq_getElem (by omega)] at h2
  match cs,hl with
  | [a,b,c],_=>
    obtain⟨k0,e0,_⟩:=DataW.trod_int Tryz.underlying3 h0
    obtain⟨k1,e1,_⟩:=DataW.trod_int Tryz.underlying3 h1
    obtain⟨w,gs,e2,hw,hb,_⟩:=open_gatesC h2
    simp at e0 e1 e2
    subst e0 e1 e2
    exact⟨⟨k0,k1,gs⟩,_,rfl,hw,hb⟩
end
end Go.Proofs.YtodmckckapmmoaaGreatDoor
