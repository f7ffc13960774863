/- A logic for code of the model, proved sound, and what functions do that the laws on matrices come to; nothing is asked. Part 8. -/
import Derived.Test.YtodmckckapmmoaaGreatDoorM7
set_option linter.unusedVariables false
set_option linter.unusedSimpArgs false
set_option linter.unnecessarySimpa false
namespace Go.Proofs.YtodmckckapmmoaaGreatDoor
open Go.Proofs.YtodmckckapmmoaaGreatDoor.X Go.Proofs.YtodmckckapmmoaaGreatDoor.X.PH
set_option maxRecDepth 100000
theorem e18L {B H O : PH} {l:List (Value × Mx)} {u v:Value} {x:Mx} (hl:OwnL B O l) (hm:(u,x)∈l) (hv:MatH H v x):Cl Tryz.prog 18 [u,v] H O fun r _ O'=>Sub O O'∧r=.bool true:=by
 have hq:=hl.mem hm
 have hlen:=hq.len
 have hent:=(e18 [] [] emp _ _ (nilM _) (nilM _) (by simp) (by simp)).ent
 have h:=Cl.share' (H:=H) (R:=O) (Q:=fun r=>r=.bool (eqM x x)) (show Ent Tryz.prog 18 from hent) (args:=[u,v]) fun hd=>e18 x x _ _ _ (hq.share hd) (hv.up un_l) hlen.1 hlen.2
 rw[eqM_refl] at h
 exact h
set_option maxHeartbeats 4000000 in
theorem e3 (l : Vec) (m n:Mx) (x y:P4 × Int) (k:Int) (hk:-9223372036854775808≤k∧k < 9223372036854775808) (hll:l.length < 9223372036854775808) (hlm:m.length < 9223372036854775808) (hln:n.length < 9223372036854775808) (H:PH) (v u w:Value) (hG:GlobH H) (hv:NumH H v l) (hu:MatH H u m) (hw:MatH H w n) :
 Cl Tryz.prog 3 [v,u,w,nv x,nv y,.int .i64 k] H emp fun r _ _=>r=.bool true:=by
 obtain⟨lb,lc,rfl,_⟩:=id hv
 obtain⟨ub,uc,rfl⟩:=MatH.sl hu
 obtain⟨wb,wc,rfl⟩:=MatH.sl hw
 refine Cl_of (pol:=fun | 35=>.imm | 36=>.imm | 37=>.imm | 116=>.own | _=>.loc) Γok Tryz.func3 (by kernel_rfl) rfl ?_
 conv=>whnf
 intro bx
 conv=>whnf
 intro bz
 conv=>whnf
 refine if_intro (fun h66=>?_) (fun h66=>?_)
 ·conv=>whnf
  refine (e9 _ hG).val fun H1 s1=>?_
  conv=>whnf
 have h66:l.length≤66:=by
  have:=of_decide_eq_false h66
  omega
 conv=>whnf
 intro b hb _
 conv=>whnf
 have s1:=sub_ins H (.cells ⟨[.slice ub m.length uc,.slice wb n.length wc]⟩ 23 (0,0)) hb
 refine (e8 [m,n] _ _ (pair_mats (ins_same _ _ _) (hu.up s1) (hw.up s1)) (by simp) (by simp;omega)).val fun H1 s2=>?_
 have s12:=s1.trans s2
 replace hG:=GlobH.up hG s12
 replace hv:=NumH.up hv s12
 replace hu:=MatH.up hu s12
 replace hw:=MatH.up hw s12
 conv=>whnf
 refine if_intro (fun hg=>?_) (fun hg=>?_)
 ·conv=>whnf
  refine (e9 _ hG).val fun H2 s3=>?_
  conv=>whnf
 rw[List.any_eq_false] at hg
 obtain⟨hm8,hmr⟩:=great_not (m:=m) (n:=8) (by simpa using hg m (by simp))
 obtain⟨hn8,hnr⟩:=great_not (m:=n) (n:=8) (by simpa using hg n (by simp))
 conv=>whnf
 refine (c43' l _ _ hv (by omega)).use fun p H2 s3 hp=>?_
 obtain⟨_,hp⟩:=hp
 obtain⟨pb,pc,rfl,_⟩:=id hp
 replace hG:=GlobH.up hG s3
 replace hv:=NumH.up hv s3
 replace hu:=MatH.up hu s3
 replace hw:=MatH.up hw s3
 conv=>whnf
 refine (c15' m _ _ hu (by omega) (fun r hr=>by have:=hmr r hr;omega)).use fun q H3 s4 hq=>?_
 obtain⟨_,hq⟩:=hq
 obtain⟨qb,qc,rfl⟩:=MatH.sl hq
 replace hG:=GlobH.up hG s4
 replace hv:=NumH.up hv s4
 replace hu:=MatH.up hu s4
 replace hw:=MatH.up hw s4
 replace hp:=NumH.up hp s4
 conv=>whnf
 refine (c15' n _ _ hw (by omega) (fun r hr=>by have:=hnr r hr;omega)).use fun t H4 s5 ht=>?_
 obtain⟨_,ht⟩:=ht
 obtain⟨tb,tc,rfl⟩:=MatH.sl ht
 replace hG:=GlobH.up hG s5
 replace hv:=NumH.up hv s5
 replace hu:=MatH.up hu s5
 replace hw:=MatH.up hw s5
 replace hp:=NumH.up hp s5
 replace hq:=MatH.up hq s5
 conv=>whnf
 refine (e12 l (by omega) _ _ hv).use fun r H6 s6 hr=>?_
 obtain⟨_,w1,rfl,hw1⟩:=hr
 replace hG:=GlobH.up hG s6
 replace hv:=NumH.up hv s6
 replace hu:=MatH.up hu s6
 replace hw:=MatH.up hw s6
 replace hp:=NumH.up hp s6
 replace hq:=MatH.up hq s6
 replace ht:=MatH.up ht s6
 conv=>whnf
 refine (e13 k hk _).use fun r H7 s7 hr=>?_
 obtain⟨_,w2,rfl,hw2⟩:=hr
 replace hG:=GlobH.up hG s7
 replace hv:=NumH.up hv s7
 replace hu:=MatH.up hu s7
 replace hw:=MatH.up hw s7
 replace hp:=NumH.up hp s7
 replace hq:=MatH.up hq s7
 replace ht:=MatH.up ht s7
 replace hw1:=MatH.up hw1 s7
 conv=>whnf
 refine (e14 m n x y _ _ _ hu hw).use fun r H8 s8 hr=>?_
 obtain⟨_,w3,rfl,hw3⟩:=hr
 replace hG:=GlobH.up hG s8
 replace hv:=NumH.up hv s8
 replace hu:=MatH.up hu s8
 replace hw:=MatH.up hw s8
 replace hp:=NumH.up hp s8
 replace hq:=MatH.up hq s8
 replace ht:=MatH.up ht s8
 replace hw1:=MatH.up hw1 s8
 replace hw2:=MatH.up hw2 s8
 conv=>whnf
 have k1:OwnL emp emp []:=Sub.refl _
 refine (k1.call (e15 l (by omega) _ _ hp)).mono fun r H9 O9 s9 hr=>?_
 obtain⟨a1,rfl,k2⟩:=hr
 replace hG:=GlobH.up hG s9
 replace hv:=NumH.up hv s9
 replace hu:=MatH.up hu s9
 replace hw:=MatH.up hw s9
 replace hp:=NumH.up hp s9
 replace hq:=MatH.up hq s9
 replace ht:=MatH.up ht s9
 replace hw1:=MatH.up hw1 s9
 replace hw2:=MatH.up hw2 s9
 replace hw3:=MatH.up hw3 s9
 conv=>whnf
 refine (k2.call (e16 k hk _)).mono fun r H10 O10 s10 hr=>?_
 obtain⟨a2,rfl,k3⟩:=hr
 replace hG:=GlobH.up hG s10
 replace hv:=NumH.up hv s10
 replace hu:=MatH.up hu s10
 replace hw:=MatH.up hw s10
 replace hp:=NumH.up hp s10
 replace hq:=MatH.up hq s10
 replace ht:=MatH.up ht s10
 replace hw1:=MatH.up hw1 s10
 replace hw2:=MatH.up hw2 s10
 replace hw3:=MatH.up hw3 s10
 conv=>whnf
 refine (k3.call (e17 m n x y (by omega) (by omega) _ _ _ hq ht)).mono fun r H11 O11 s11 hr=>?_
 obtain⟨a3,rfl,k4⟩:=hr
 replace hG:=GlobH.up hG s11
 replace hv:=NumH.up hv s11
 replace hu:=MatH.up hu s11
 replace hw:=MatH.up hw s11
 replace hp:=NumH.up hp s11
 replace hq:=MatH.up hq s11
 replace ht:=MatH.up ht s11
 replace hw1:=MatH.up hw1 s11
 replace hw2:=MatH.up hw2 s11
 replace hw3:=MatH.up hw3 s11
 conv=>whnf
 generalize ofV l=A1 at *
 generalize mixedI k=A2 at *
 generalize mixM m n x y=A3 at *
 replace k4:OwnL emp O11 [(a1,A1.1),(a2,A2.1),(a3,A3.1)]:=k4
 clear k1 k2 k3
 rw[bne_self_eq_false]
 conv=>whnf
 rw[bne_self_eq_false]
 conv=>whnf
 rw[bne_self_eq_false]
 conv=>whnf
 refine (e18L k4 (by simp) hw1).mono fun r H12 O12 s12 hr=>?_
 obtain⟨o1,rfl⟩:=hr
 replace k4:=k4.up o1
 replace hG:=GlobH.up hG s12
 replace hv:=NumH.up hv s12
 replace hu:=MatH.up hu s12
 replace hw:=MatH.up hw s12
 replace hp:=NumH.up hp s12
 replace hq:=MatH.up hq s12
 replace ht:=MatH.up ht s12
 replace hw1:=MatH.up hw1 s12
 replace hw2:=MatH.up hw2 s12
 replace hw3:=MatH.up hw3 s12
 conv=>whnf
 refine (e18L k4 (by simp) hw2).mono fun r H13 O13 s13 hr=>?_
 obtain⟨o2,rfl⟩:=hr
 replace k4:=k4.up o2
 replace hG:=GlobH.up hG s13
 replace hv:=NumH.up hv s13
 replace hu:=MatH.up hu s13
 replace hw:=MatH.up hw s13
 replace hp:=NumH.up hp s13
 replace hq:=MatH.up hq s13
 replace ht:=MatH.up ht s13
 replace hw1:=MatH.up hw1 s13
 replace hw2:=MatH.up hw2 s13
 replace hw3:=MatH.up hw3 s13
 conv=>whnf
 refine (e18L k4 (by simp) hw3).mono fun r H14 O14 s14 hr=>?_
 obtain⟨o3,rfl⟩:=hr
 replace k4:=k4.up o3
 replace hG:=GlobH.up hG s14
 replace hv:=NumH.up hv s14
 replace hu:=MatH.up hu s14
 replace hw:=MatH.up hw s14
 replace hp:=NumH.up hp s14
 replace hq:=MatH.up hq s14
 replace ht:=MatH.up ht s14
 replace hw1:=MatH.up hw1 s14
 replace hw2:=MatH.up hw2 s14
 replace hw3:=MatH.up hw3 s14
 conv=>whnf
 obtain⟨y1,y2,y3,rfl⟩:=(k4.mem (u:=a1) (x:=A1.1) (by simp)).sl
 obtain⟨z1,z2,z3,rfl⟩:=(k4.mem (u:=a2) (x:=A2.1) (by simp)).sl
 obtain⟨v1,v2,v3,rfl⟩:=(k4.mem (u:=a3) (x:=A3.1) (by simp)).sl
 conv=>whnf
 intro bs _ hbs
 replace k4:=k4.ins (o:=.cells ⟨[.slice y1 y2 y3,.slice z1 z2 z3,.slice v1 v2 v3]⟩ 23 (0,0)) hbs
 conv=>whnf
 refine W_loop (pol:=polL) Γok (Nat × PH × PH) (fun i=>i.1≤3∧Sub H14 i.2.1∧OwnL (ins emp bs (.cells ⟨[.slice y1 y2 y3,.slice z1 z2 z3,.slice v1 v2 v3]⟩ 23 (0,0))) i.2.2 (List.drop i.1 [(.slice y1 y2 y3,A1.1),(.slice z1 z2 z3,A2.1),(.slice v1 v2 v3,A3.1)])) (fun i=>3 - i.1) (fun i=>[(118,.v (.int .i64 i.1))]) (fun _=>[]) (fun i=>i.2.1) (fun i=>i.2.2) ⟨(0,H14,_),⟨by simp,Sub.refl _,k4⟩,rfl,rfl,?_⟩ ?_
 ·conv=>whnf
  repeat (refine⟨rfl,?_⟩;conv=>whnf)
  exact trivial
 rintro ⟨i,H16,O16⟩ ⟨h1,t9,k6⟩
 dsimp only at h1 t9 k6
 rcases (show i=0∨i=1∨i=2∨i=3 by omega) with rfl | rfl | rfl | rfl
 ·conv=>whnf
  refine⟨[.slice y1 y2 y3],⟨rfl,rfl,_,_,_,.inr (k6.rem _ _ (ins_same _ _ _)),rfl⟩,?_⟩
  conv=>whnf
  refine (c24L k6).mono fun r H17 O17 t10 k7=>?_
  conv=>whnf
  refine⟨(1,H17,O17),⟨by dsimp only;omega,t9.trans t10,k7⟩,by dsimp only;omega,?_⟩
  conv=>whnf
  refine⟨rfl,rfl,?_⟩
  conv=>whnf
  repeat (refine⟨rfl,?_⟩;conv=>whnf)
  exact trivial
 ·conv=>whnf
  refine⟨[.slice z1 z2 z3],⟨rfl,rfl,_,_,_,.inr (k6.rem _ _ (ins_same _ _ _)),rfl⟩,?_⟩
  conv=>whnf
  refine (c24L k6).mono fun r H17 O17 t10 k7=>?_
  conv=>whnf
  refine⟨(2,H17,O17),⟨by dsimp only;omega,t9.trans t10,k7⟩,by dsimp only;omega,?_⟩
  conv=>whnf
  refine⟨rfl,rfl,?_⟩
  conv=>whnf
  repeat (refine⟨rfl,?_⟩;conv=>whnf)
  exact trivial
 ·conv=>whnf
  refine⟨[.slice v1 v2 v3],⟨rfl,rfl,_,_,_,.inr (k6.rem _ _ (ins_same _ _ _)),rfl⟩,?_⟩
  conv=>whnf
  refine (c24L k6).mono fun r H17 O17 t10 k7=>?_
  conv=>whnf
  refine⟨(3,H17,O17),⟨by dsimp only;omega,t9.trans t10,k7⟩,by dsimp only;omega,?_⟩
  conv=>whnf
  refine⟨rfl,rfl,?_⟩
  conv=>whnf
  repeat (refine⟨rfl,?_⟩;conv=>whnf)
  exact trivial
 conv=>whnf
 replace hG:=GlobH.up hG t9
 replace hv:=NumH.up hv t9
 replace hu:=MatH.up hu t9
 replace hw:=MatH.up hw t9
 replace hp:=NumH.up hp t9
 replace hq:=MatH.up hq t9
 replace ht:=MatH.up ht t9
 replace hw1:=MatH.up hw1 t9
 replace hw2:=MatH.up hw2 t9
 replace hw3:=MatH.up hw3 t9
 have hl1:=c48 l l _ _ _ hp hv (by omega)
 rw[eqL_refl] at hl1
 refine hl1.val fun H20 t13=>?_
 replace hG:=GlobH.up hG t13
 replace hv:=NumH.up hv t13
 replace hu:=MatH.up hu t13
 replace hw:=MatH.up hw t13
 replace hp:=NumH.up hp t13
 replace hq:=MatH.up hq t13
 replace ht:=MatH.up ht t13
 replace hw1:=MatH.up hw1 t13
 replace hw2:=MatH.up hw2 t13
 replace hw3:=MatH.up hw3 t13
 conv=>whnf
 have hs1:=e18 m m _ _ _ hq hu (by omega) (fun r hr=>by have:=hmr r hr;omega)
 rw[eqM_refl] at hs1
 refine hs1.val fun H21 t14=>?_
 replace hG:=GlobH.up hG t14
 replace hv:=NumH.up hv t14
 replace hu:=MatH.up hu t14
 replace hw:=MatH.up hw t14
 replace hp:=NumH.up hp t14
 replace hq:=MatH.up hq t14
 replace ht:=MatH.up ht t14
 replace hw1:=MatH.up hw1 t14
 replace hw2:=MatH.up hw2 t14
 replace hw3:=MatH.up hw3 t14
 conv=>whnf
 have hs2:=e18 n n _ _ _ ht hw (by omega) (fun r hr=>by have:=hnr r hr;omega)
 rw[eqM_refl] at hs2
 refine hs2.val fun H22 t15=>?_
 replace hG:=GlobH.up hG t15
 replace hv:=NumH.up hv t15
 replace hu:=MatH.up hu t15
 replace hw:=MatH.up hw t15
 replace hp:=NumH.up hp t15
 replace hq:=MatH.up hq t15
 replace ht:=MatH.up ht t15
 replace hw1:=MatH.up hw1 t15
 replace hw2:=MatH.up hw2 t15
 replace hw3:=MatH.up hw3 t15
 conv=>whnf
 refine (e9 _ hG).val fun H23 t16=>?_
 conv=>whnf
theorem fit_great {c : Ct} (h:greatC c=false):c.fit:=by
 unfold greatC at h
 rw[Bool.or_eq_false_iff] at h
 obtain⟨h1,h2⟩:=h
 refine⟨?_,fun g hg=>?_⟩
 ·have:=of_decide_eq_false h1
  omega
 ·have:=List.any_eq_false.1 h2 g hg
  unfold bigG at this
  simp at this
  omega
theorem e41o (c : Ct) (m:Mx) (hc:c.fit) (hm:m.length < 1000000) (H:PH) (v u:Value) (hv:CircH H v c) (hu:MatH H u m):Cl Tryz.prog 41 [v,u] H emp fun r H' M'=>∃ b us,r=.tuple #[.slice b us.length us.length,.int .i64 (runM c m).2]∧(us=[]∨∃ hb,b=some ⟨hb,0,none⟩∧H' hb=some (.cells ⟨us⟩ 23 (0,0)))∧us.length=(runM c m).1.length∧OwnL emp M' (us.zip (runM c m).1):=
 (Cl.own (e41 c m hc hm H v u hv hu)).repart fun r H2 M2 _ d hq=>by
  obtain⟨rfl,H',M',hq,hs,hd,hM,hn⟩:=hq
  rcases hq with⟨h1,rfl⟩ | ⟨us,hb,rfl,h2,h3⟩
  ·refine⟨_,_,.refl d,none,[],rfl,.inl rfl,by simp[h1],?_⟩
   exact fun n o h=>by cases h
  ·refine⟨_,_,.one d (hM _ _ h2),some ⟨hb,0,none⟩,us,rfl,.inr ⟨hb,rfl,ins_same _ _ _⟩,h3.1,h3.2.up fun n o hno=>?_⟩
   unfold newH at hno
   cases e:H2 n with
   | some o'=>rw[e] at hno;cases hno
   | none=>
    rw[e] at hno
    have hne:n ≠ hb:=fun e'=>by
     subst e'
     have:=(hd n).resolve_right (by rw[h2];simp)
     rw[this] at hno
     cases hno
    rw[del_ne _ hne]
    exact hn n o e hno
theorem runG_nil (n : Int):∀ (gs:List Gt) (l:List Mx),(runG n gs l).2 ≠ 0→(runG n gs l).1=[]
 | [],l,h=>absurd rfl h
 | g::gs,l,h=>by
  unfold runG at h ⊢
  split
  ·rfl
  ·rename_i h'
   rw[if_neg h'] at h
   exact runG_nil n gs _ h
theorem run_len (c : Ct) (m:Mx):(runM c m).1.length < 1000000:=by
 by_cases h:(runM c m).2=0
 ·obtain⟨n,q,hn,hq,hl,_⟩:=run_all h
  have hQ:2 ^ q≤16:=Nat.pow_le_pow_right (by decide) (by omega:q≤4)
  omega
 ·unfold runM at h ⊢
  split
  ·exact (by decide:0 < 1000000)
  ·rename_i h'
   rw[if_neg h'] at h
   rw[runG_nil _ _ _ h]
   exact (by decide:0 < 1000000)
theorem rd_at {H H' O : PH} {b i:Nat} {us:List Value} {t:TypeId} (hb:H b=some (.cells ⟨us⟩ t (0,0))) (hi:i < us.length) (hs:Sub H H'):Rd H' O ⟨b,0+i*1,none⟩ 1 [us[i]]:=by
 refine⟨rfl,rfl,_,_,_,.inl (hs _ _ hb),?_⟩
 dsimp only
 rw[Nat.zero_add,Nat.mul_one,List.drop_eq_getElem_cons hi]
 rfl
theorem OwnL.mats {H O : PH} {b:Option Addr} {us:List Value} {l:List Mx} {rest:List (Value × Mx)} (hl:us.length=l.length) (ha:us=[]∨∃ hb,b=some ⟨hb,0,none⟩∧H hb=some (.cells ⟨us⟩ 23 (0,0))) (k:OwnL emp O (us.zip l++rest)) (hd:Dis H O):MatsH (un H O) (.slice b us.length us.length) l:=by
 have hv:MatV (un H O) us l:=by
  refine⟨hl,fun i m u hm hu=>?_⟩
  have hmem:(u,m)∈us.zip l++rest:=List.mem_append_left _ (List.mem_iff_getElem?.2 ⟨i,by rw[List.getElem?_zip_eq_some];exact⟨hu,hm⟩⟩)
  exact (k.mem hmem).share hd
 rcases ha with rfl | ⟨hb,rfl,hH⟩
 ·have:l=[]:=List.length_eq_zero_iff.1 hl.symm
  subst this
  exact⟨[],rfl,⟨_,_,rfl,.inl ⟨rfl,rfl⟩⟩,fun i m u h=>by simp at h⟩
 ·exact hv.mats (sub_un _ _ _ _ hH)
theorem e43L {H O : PH} {b:Option Addr} {us:List Value} {l:List Mx} {rest:List (Value × Mx)} {v:Value} (hl:us.length=l.length) (ha:us=[]∨∃ hb,b=some ⟨hb,0,none⟩∧H hb=some (.cells ⟨us⟩ 23 (0,0))) (k:OwnL emp O (us.zip l++rest)) (hlt:us.length < 1000000) (hv:MatsH H v l):Cl Tryz.prog 43 [.slice b us.length us.length,v,.func (.func 18) ⟨[]⟩ ⟨[]⟩] H O fun r _ O'=>Sub O O'∧r=.bool true:=by
 have hent:=(e43 [] (by simp) (by simp) emp _ _ ⟨[],rfl,⟨none,0,rfl,.inl ⟨rfl,rfl⟩⟩,fun i m u h=>by simp at h⟩ ⟨[],rfl,⟨none,0,rfl,.inl ⟨rfl,rfl⟩⟩,fun i m u h=>by simp at h⟩).ent
 refine Cl.share' (H:=H) (R:=O) (Q:=fun r=>r=.bool true) hent fun hd=>e43 l (by omega) (fun m hm=>?_) _ _ _ (k.mats hl ha hd) (hv.up un_l)
 obtain⟨i,hi,rfl⟩:=List.mem_iff_getElem.1 hm
 have hmem:(us[i]'(by omega),l[i])∈us.zip l++rest:=List.mem_append_left _ (List.mem_iff_getElem.2 ⟨i,by rw[List.length_zip];omega,by simp⟩)
 exact (k.mem hmem).len
set_option maxHeartbeats 4000000 in
theorem e5 (c : Ct) (m:Mx) (hc0:c.gates.length < 9223372036854775808) (hlm:m.length < 9223372036854775808) (H:PH) (v u:Value) (hG:GlobH H) (hv:CircH H v c) (hu:MatH H u m):Cl Tryz.prog 5 [v,u] H emp fun r _ _=>r=.bool true:=by
 obtain⟨gb,gc,rfl,hgs⟩:=hv.sl
 obtain⟨ub,uc,rfl⟩:=MatH.sl hu
 refine Cl_of (pol:=fun | 21=>.imm | _=>.loc) Γok Tryz.func5 (by kernel_rfl) rfl ?_
 conv=>whnf
 intro bx
 conv=>whnf
 refine (d31 c (by omega) _ _ hv).val fun H1 s1=>?_
 replace hG:=GlobH.up hG s1
 replace hv:=CircH.up hv s1
 replace hu:=MatH.up hu s1
 conv=>whnf
 refine if_intro (fun hg=>?_) (fun hg=>?_)
 ·conv=>whnf
  refine (e9 _ hG).val fun H2 s3=>?_
  conv=>whnf
 have hfit:=fit_great hg
 conv=>whnf
 intro b hb _
 conv=>whnf
 have s2:=sub_ins H1 (.cells ⟨[.slice ub m.length uc]⟩ 23 (0,0)) hb
 refine (e8 [m] _ _ (one_mats (ins_same _ _ _) (hu.up s2)) (by simp) (by simp;omega)).val fun H2 s3=>?_
 have s23:=s2.trans s3
 replace hG:=GlobH.up hG s23
 replace hv:=CircH.up hv s23
 replace hu:=MatH.up hu s23
 conv=>whnf
 refine if_intro (fun hg2=>?_) (fun hg2=>?_)
 ·conv=>whnf
  refine (e9 _ hG).val fun H3 s4=>?_
  conv=>whnf
 rw[List.any_eq_false] at hg2
 obtain⟨hm8,hmr⟩:=great_not (m:=m) (n:=8) (by simpa using hg2 m (by simp))
 conv=>whnf
 refine (d10 c hfit _ _ hv).use fun x H3 s4 hx=>?_
 obtain⟨_,hx⟩:=hx
 obtain⟨xb,xc,rfl,hxs⟩:=hx.sl
 replace hG:=GlobH.up hG s4
 replace hv:=CircH.up hv s4
 replace hu:=MatH.up hu s4
 conv=>whnf
 refine (c15' m _ _ hu (by omega) (fun r hr=>by have:=hmr r hr;omega)).use fun y H4 s5 hy=>?_
 obtain⟨_,hy⟩:=hy
 obtain⟨yb,yc,rfl⟩:=MatH.sl hy
 replace hG:=GlobH.up hG s5
 replace hv:=CircH.up hv s5
 replace hu:=MatH.up hu s5
 replace hx:=CircH.up hx s5
 conv=>whnf
 intro b5
 conv=>whnf
 refine (e39 c m hfit _ _ _ hv hu).use fun r H5 s6 hr=>?_
 obtain⟨_,w1,rfl,hw1⟩:=hr
 replace hG:=GlobH.up hG s6
 replace hv:=CircH.up hv s6
 replace hu:=MatH.up hu s6
 replace hx:=CircH.up hx s6
 replace hy:=MatH.up hy s6
 conv=>whnf
 refine (e40 c m hfit _ _ _ hv hu).use fun r H6 s7 hr=>?_
 obtain⟨_,w2,rfl,hw2⟩:=hr
 replace hG:=GlobH.up hG s7
 replace hv:=CircH.up hv s7
 replace hu:=MatH.up hu s7
 replace hx:=CircH.up hx s7
 replace hy:=MatH.up hy s7
 replace hw1:=MatsH.up hw1 s7
 conv=>whnf
 refine (e41o c m hfit (by omega) _ _ _ hx hy).mono fun r H7 O7 s8 hr=>?_
 obtain⟨ab,us,rfl,ha,hul,k1⟩:=hr
 replace hG:=GlobH.up hG s8
 replace hv:=CircH.up hv s8
 replace hu:=MatH.up hu s8
 replace hx:=CircH.up hx s8
 replace hy:=MatH.up hy s8
 replace hw1:=MatsH.up hw1 s8
 replace hw2:=MatH.up hw2 s8
 conv=>whnf
 refine (k1.call (e42 c m hfit (by omega) _ _ _ hx hy)).mono fun r H8 O8 s9 hr=>?_
 obtain⟨wb,rfl,k2⟩:=hr
 replace hG:=GlobH.up hG s9
 replace hv:=CircH.up hv s9
 replace hu:=MatH.up hu s9
 replace hx:=CircH.up hx s9
 replace hy:=MatH.up hy s9
 replace hw1:=MatsH.up hw1 s9
 replace hw2:=MatH.up hw2 s9
 replace ha:us=[]∨∃ hb,ab=some ⟨hb,0,none⟩∧H8 hb=some (.cells ⟨us⟩ 23 (0,0)):=ha.imp id fun ⟨hb,h1,h2⟩=>⟨hb,h1,s9 _ _ h2⟩
 have hrl:=run_len c m
 generalize runM c m=A1 at *
 generalize wholeM c m=A2 at *
 conv=>whnf
 rw[bne_self_eq_false]
 conv=>whnf
 rw[bne_self_eq_false]
 conv=>whnf
 refine (e43L hul ha k2 (by rw[hul];exact hrl) hw1).mono fun r H9 O9 s10 hr=>?_
 obtain⟨o1,rfl⟩:=hr
 replace k2:=k2.up o1
 replace hG:=GlobH.up hG s10
 replace hv:=CircH.up hv s10
 replace hu:=MatH.up hu s10
 replace hx:=CircH.up hx s10
 replace hy:=MatH.up hy s10
 replace hw1:=MatsH.up hw1 s10
 replace hw2:=MatH.up hw2 s10
 replace ha:us=[]∨∃ hb,ab=some ⟨hb,0,none⟩∧H9 hb=some (.cells ⟨us⟩ 23 (0,0)):=ha.imp id fun ⟨hb,h1,h2⟩=>⟨hb,h1,s10 _ _ h2⟩
 conv=>whnf
 refine (e18L k2 (by simp) hw2).mono fun r H10 O10 s11 hr=>?_
 obtain⟨o2,rfl⟩:=hr
 replace k2:=k2.up o2
 replace hG:=GlobH.up hG s11
 replace hv:=CircH.up hv s11
 replace hu:=MatH.up hu s11
 replace hx:=CircH.up hx s11
 replace hy:=MatH.up hy s11
 replace hw1:=MatsH.up hw1 s11
 replace hw2:=MatH.up hw2 s11
 replace ha:us=[]∨∃ hb,ab=some ⟨hb,0,none⟩∧H10 hb=some (.cells ⟨us⟩ 23 (0,0)):=ha.imp id fun ⟨hb,h1,h2⟩=>⟨hb,h1,s11 _ _ h2⟩
 conv=>whnf
 refine W_loop (pol:=polL) Γok (Nat × PH × PH) (fun i=>i.1≤us.length∧Sub H10 i.2.1∧OwnL emp i.2.2 ((us.zip A1.1).drop i.1++[(wb,A2.1)])) (fun i=>us.length - i.1) (fun i=>[(75,.v (.int .i64 i.1))]) (fun _=>[]) (fun i=>i.2.1) (fun i=>i.2.2) ⟨(0,H10,O10),⟨by simp,Sub.refl _,k2⟩,rfl,rfl,?_⟩ ?_
 ·conv=>whnf
  repeat (refine⟨rfl,?_⟩;conv=>whnf)
  exact trivial
 rintro ⟨i,H11,O11⟩ ⟨h1,t9,k6⟩
 dsimp only at h1 t9 k6
 conv=>whnf
 refine if_intro (fun hci=>?_) (fun hci=>?_)
 ·have hi:i < us.length:=by
   have:=of_decide_eq_true hci
   omega
  rcases ha with rfl | ⟨hb',rfl,hH⟩
  ·cases hi
  have hzi:i < (us.zip A1.1).length:=by rw[List.length_zip];omega
  have hz:(us.zip A1.1)[i]=(us[i],A1.1[i]'(by omega)):=by simp
  rw[List.drop_eq_getElem_cons hzi,hz] at k6
  obtain⟨y1,y2,y3,ey⟩:=(k6.mem (u:=us[i]) (x:=A1.1[i]'(by omega)) (by simp)).sl
  conv=>whnf
  refine dec_intro (by omega) ?_
  conv=>whnf
  refine⟨_,rd_at hH hi t9,?_⟩
  rw[ey]
  conv=>whnf
  rw[← ey]
  refine (c24L k6).mono fun r H12 O12 t10 k7=>?_
  conv=>whnf
  refine⟨(i+1,H12,O12),⟨hi,t9.trans t10,k7⟩,by dsimp only;omega,?_⟩
  refine⟨rfl,rfl,?_⟩
  conv=>whnf
  repeat (refine⟨rfl,?_⟩;conv=>whnf)
  refine⟨by show En.v (.int .i64 (IntKind.i64.wrap (i+1)))=_;rw[wrap_id (by omega) (by omega)];rfl,?_⟩
  conv=>whnf
  repeat (refine⟨rfl,?_⟩;conv=>whnf)
  exact trivial
 have hi:i=us.length:=by
  have:=of_decide_eq_false hci
  omega
 subst hi
 rw[List.drop_of_length_le (by rw[List.length_zip];omega)] at k6
 dsimp only
 conv=>whnf
 refine (c24L k6).mono fun r H12 O12 t10 k7=>?_
 replace hG:=GlobH.up hG t9
 replace hv:=CircH.up hv t9
 replace hu:=MatH.up hu t9
 replace hx:=CircH.up hx t9
 replace hy:=MatH.up hy t9
 replace hw1:=MatsH.up hw1 t9
 replace hw2:=MatH.up hw2 t9
 replace hG:=GlobH.up hG t10
 replace hv:=CircH.up hv t10
 replace hu:=MatH.up hu t10
 replace hx:=CircH.up hx t10
 replace hy:=MatH.up hy t10
 replace hw1:=MatsH.up hw1 t10
 replace hw2:=MatH.up hw2 t10
 conv=>whnf
 have hc2:=d22 c c hfit _ _ _ hx hv
 rw[beq_self_eq_true,beq_self_eq_true,decide_eq_true rfl] at hc2
 refine hc2.val fun H20 t13=>?_
 replace hG:=GlobH.up hG t13
 replace hv:=CircH.up hv t13
 replace hu:=MatH.up hu t13
 replace hx:=CircH.up hx t13
 replace hy:=MatH.up hy t13
 replace hw1:=MatsH.up hw1 t13
 replace hw2:=MatH.up hw2 t13
 conv=>whnf
 have hs1:=e18 m m _ _ _ hy hu (by omega) (fun r hr=>by have:=hmr r hr;omega)
 rw[eqM_refl] at hs1
 refine hs1.val fun H21 t14=>?_
 replace hG:=GlobH.up hG t14
 replace hv:=CircH.up hv t14
 replace hu:=MatH.up hu t14
 replace hx:=CircH.up hx t14
 replace hy:=MatH.up hy t14
 replace hw1:=MatsH.up hw1 t14
 replace hw2:=MatH.up hw2 t14
 conv=>whnf
 refine (e9 _ hG).val fun H23 t16=>?_
 conv=>whnf
end Go.Proofs.YtodmckckapmmoaaGreatDoor
namespace Go.Proofs.YtodmckckapmmoaaGreatDoor
open Go.Proofs.YtodmckckapmmoaaGreatDoor.X Go.Proofs.YtodmckckapmmoaaGreatDoor.X.PH Go.ChangeShapes Go.WideShapes Go.ChangeAt Go.RowKit Go.Deep
set_option maxRecDepth 100000
instance : Inhabited Gt := ⟨⟨0, [], 0, 0⟩⟩
section
variable {H : Type} {enc : TypeId × Value → H} {W : World}
end
end Go.Proofs.YtodmckckapmmoaaGreatDoor
namespace Go.Proofs.YtodmckckapmmoaaGreatDoor
open Go.Proofs.YtodmckckapmmoaaGreatDoor.X Go.Proofs.YtodmckckapmmoaaGreatDoor.X.PH
set_option maxRecDepth 100000
theorem opsK_stop {Γ : TypeId→TI} {P:Program} {pol:Tmp→Pol} {ops rest:List Oper} {s:S} {K:S→Prop} (h:∀ K1:S→Prop,(∀ s1,K s1=K1 s1)→opsK Γ P pol ops rest s K1):opsK Γ P pol ops rest s K:=h _ fun _=>rfl
theorem eqC7 (a b c d e f g : Int):eqCells [.int .i64 a,.int .i64 b,.int .i64 c,.int .i64 d,.int .i64 e,.int .i64 f,.int .i64 g] [.int .i64 a,.int .i64 b,.int .i64 c,.int .i64 d,.int .i64 e,.int .i64 f,.int .i64 g]=true:=by simp[eqCells]
theorem eqC5 (a b c d e : Int):eqCells [.int .i64 a,.int .i64 b,.int .i64 c,.int .i64 d,.int .i64 e] [.int .i64 a,.int .i64 b,.int .i64 c,.int .i64 d,.int .i64 e]=true:=by simp[eqCells]
set_option maxHeartbeats 4000000 in
theorem e4 (m : Mx) (g:Gt) (w x:Int) (hlm:m.length < 9223372036854775808) (hlg:g.ws.length < 9223372036854775808) (H:PH) (u v:Value) (hG:GlobH H) (hu:MatH H u m) (hg:IntsC H v g.ws):Cl Tryz.prog 4 [u,gv g v,.int .i64 w,.int .i64 x] H emp fun r _ _=>r=.bool true:=by
 obtain⟨ub,uc,rfl⟩:=MatH.sl hu
 obtain⟨gb,gc,rfl,hgc,_⟩:=id hg
 refine Cl_of (pol:=fun | 25=>.imm | _=>.loc) Γok Tryz.func4 (by kernel_rfl) rfl ?_
 conv=>whnf
 intro bx
 conv=>whnf
 intro b hb _
 conv=>whnf
 have s1:=sub_ins H (.cells ⟨[.slice ub m.length uc]⟩ 23 (0,0)) hb
 refine (e8 [m] _ _ (one_mats (ins_same _ _ _) (hu.up s1)) (by simp) (by simp;omega)).val fun H1 s2=>?_
 have s12:=s1.trans s2
 replace hG:=GlobH.up hG s12
 replace hu:=MatH.up hu s12
 replace hg:=IntsC.up hg s12
 conv=>whnf
 refine if_intro (fun hg2=>?_) (fun hg2=>?_)
 ·conv=>whnf
  refine (e9 _ hG).val fun H3 s4=>?_
  conv=>whnf
 rw[List.any_eq_false] at hg2
 obtain⟨hm8,hmr⟩:=great_not (m:=m) (n:=8) (by simpa using hg2 m (by simp))
 conv=>whnf
 refine if_intro (fun h6=>?_) (fun h6=>?_)
 ·conv=>whnf
  refine (e9 _ hG).val fun H3 s4=>?_
  conv=>whnf
 have h6:g.ws.length≤6:=by
  have:=of_decide_eq_false h6
  omega
 conv=>whnf
 refine W_draw (pol:=(fun | 25=>.imm | _=>.loc)) Γok mixes [(0,.pendO),(2,.pend),(3,.pend),(4,.pend),(5,.pend),(7,.pend),(8,.pend),(9,.pend),(10,.pend),(1,.lock),(6,.lock),(11,.pendO),(12,.late),(13,.pendO),(14,.lock)] 198 (by kernel_rfl) rfl ?_
 conv=>whnf
 refine (c15' m _ _ hu (by omega) (fun r hr=>by have:=hmr r hr;omega)).use fun y H2 s3 hy=>?_
 obtain⟨_,hy⟩:=hy
 obtain⟨yb,yc,rfl⟩:=MatH.sl hy
 replace hG:=GlobH.up hG s3
 replace hu:=MatH.up hu s3
 replace hg:=IntsC.up hg s3
 conv=>whnf
 refine (c16C g.ws (by omega) _ _ hg.h).use fun v2 H3 s4 hv2=>?_
 obtain⟨_,hv2⟩:=hv2
 obtain⟨vb,vc,rfl,_⟩:=id hv2
 replace hG:=GlobH.up hG s4
 replace hu:=MatH.up hu s4
 replace hg:=IntsC.up hg s4
 replace hy:=MatH.up hy s4
 conv=>whnf
 intro _
 conv=>whnf
 intro _
 dsimp only[lenK,appK]
 try dsimp only[putK,setK]
 try dsimp only[opsK]
 conv=>whnf
 intro _
 dsimp only[lenK,appK]
 try dsimp only[putK,setK]
 try dsimp only[opsK]
 conv=>whnf
 intro _
 dsimp only[lenK,appK]
 try dsimp only[putK,setK]
 try dsimp only[opsK]
 conv=>whnf
 intro _
 dsimp only[lenK,appK]
 try dsimp only[putK,setK]
 try dsimp only[opsK]
 conv=>whnf
 obtain⟨A1,hA1⟩:∃ A,A=applyM m g:=⟨_,rfl⟩
 obtain⟨A2,hA2⟩:∃ A,A=findM m w x:=⟨_,rfl⟩
 obtain⟨A3,hA3⟩:∃ A,A=forgetM m w:=⟨_,rfl⟩
 obtain⟨A4,hA4⟩:∃ A,A=resetM m w:=⟨_,rfl⟩
 obtain⟨A5,hA5⟩:∃ A,A=outM m w:=⟨_,rfl⟩
 obtain⟨A6,hA6⟩:∃ A,A=oddsM m w:=⟨_,rfl⟩
 obtain⟨A7,hA7⟩:∃ A,A=purityM m:=⟨_,rfl⟩
 have q4:=e22 m g (by omega) _ _ _ hu hg
 rw[← hA1] at q4
 refine (q4).use fun r H4 s4 hr=>?_
 obtain⟨_,w1,rfl,hw1⟩:=hr
 obtain⟨w1b,w1c,rfl⟩:=MatH.sl hw1
 replace hG:=GlobH.up hG s4
 replace hu:=MatH.up hu s4
 replace hg:=IntsC.up hg s4
 replace hy:=MatH.up hy s4
 replace hv2:=IntsC.up hv2 s4
 conv=>whnf
 have q5:=e23 m w x _ _ hu
 rw[← hA2] at q5
 refine (q5).use fun r H5 s5 hr=>?_
 obtain⟨_,w2,rfl,hw2⟩:=hr
 obtain⟨w2b,w2c,rfl⟩:=MatH.sl hw2
 replace hG:=GlobH.up hG s5
 replace hu:=MatH.up hu s5
 replace hg:=IntsC.up hg s5
 replace hy:=MatH.up hy s5
 replace hv2:=IntsC.up hv2 s5
 replace hw1:=MatH.up hw1 s5
 conv=>whnf
 have q6:=e24 m w _ _ hu
 rw[← hA3] at q6
 refine (q6).use fun r H6 s6 hr=>?_
 obtain⟨_,w3,rfl,hw3⟩:=hr
 obtain⟨w3b,w3c,rfl⟩:=MatH.sl hw3
 replace hG:=GlobH.up hG s6
 replace hu:=MatH.up hu s6
 replace hg:=IntsC.up hg s6
 replace hy:=MatH.up hy s6
 replace hv2:=IntsC.up hv2 s6
 replace hw1:=MatH.up hw1 s6
 replace hw2:=MatH.up hw2 s6
 conv=>whnf
 have q7:=e25 m w _ _ hu
 rw[← hA4] at q7
 refine (q7).use fun r H7 s7 hr=>?_
 obtain⟨_,w4,rfl,hw4⟩:=hr
 obtain⟨w4b,w4c,rfl⟩:=MatH.sl hw4
 replace hG:=GlobH.up hG s7
 replace hu:=MatH.up hu s7
 replace hg:=IntsC.up hg s7
 replace hy:=MatH.up hy s7
 replace hv2:=IntsC.up hv2 s7
 replace hw1:=MatH.up hw1 s7
 replace hw2:=MatH.up hw2 s7
 replace hw3:=MatH.up hw3 s7
 conv=>whnf
 have q8:=e26 m w _ _ hu
 rw[← hA5] at q8
 refine (q8).use fun r H8 s8 hr=>?_
 obtain⟨_,w5,rfl,hw5⟩:=hr
 obtain⟨w5b,w5c,rfl⟩:=MatH.sl hw5
 replace hG:=GlobH.up hG s8
 replace hu:=MatH.up hu s8
 replace hg:=IntsC.up hg s8
 replace hy:=MatH.up hy s8
 replace hv2:=IntsC.up hv2 s8
 replace hw1:=MatH.up hw1 s8
 replace hw2:=MatH.up hw2 s8
 replace hw3:=MatH.up hw3 s8
 replace hw4:=MatH.up hw4 s8
 conv=>whnf
 have q9:=e27 m w (by omega) _ _ hu
 rw[← hA6] at q9
 refine (q9).val fun H9 s9=>?_
 replace hG:=GlobH.up hG s9
 replace hu:=MatH.up hu s9
 replace hg:=IntsC.up hg s9
 replace hy:=MatH.up hy s9
 replace hv2:=IntsC.up hv2 s9
 replace hw1:=MatH.up hw1 s9
 replace hw2:=MatH.up hw2 s9
 replace hw3:=MatH.up hw3 s9
 replace hw4:=MatH.up hw4 s9
 replace hw5:=MatH.up hw5 s9
 dsimp only[putK,setK]
 refine opsK_stop fun K1 hK1=>?_
 conv=>whnf
 intro _
 conv=>whnf
 rw[← hK1]
 clear hK1 K1
 conv=>whnf
 have q10:=e28 m (by omega) _ _ hu
 rw[← hA7] at q10
 refine (q10).val fun H10 s10=>?_
 replace hG:=GlobH.up hG s10
 replace hu:=MatH.up hu s10
 replace hg:=IntsC.up hg s10
 replace hy:=MatH.up hy s10
 replace hv2:=IntsC.up hv2 s10
 replace hw1:=MatH.up hw1 s10
 replace hw2:=MatH.up hw2 s10
 replace hw3:=MatH.up hw3 s10
 replace hw4:=MatH.up hw4 s10
 replace hw5:=MatH.up hw5 s10
 dsimp only[putK,setK]
 refine opsK_stop fun K1 hK1=>?_
 conv=>whnf
 intro _
 conv=>whnf
 rw[← hK1]
 clear hK1 K1
 conv=>whnf
 have k1:OwnL emp emp []:=Sub.refl _
 have q11:=e29 m g (by omega) (by omega) _ _ _ hy hv2
 rw[← hA1] at q11
 refine (k1.call q11).mono fun r H11 O11 s11 hr=>?_
 obtain⟨a1,rfl,k2⟩:=hr
 obtain⟨a1x,a1y,a1z,rfl⟩:=(k2.mem (u:=a1) (x:=(A1).1) (by simp)).sl
 replace hG:=GlobH.up hG s11
 replace hu:=MatH.up hu s11
 replace hg:=IntsC.up hg s11
 replace hy:=MatH.up hy s11
 replace hv2:=IntsC.up hv2 s11
 replace hw1:=MatH.up hw1 s11
 replace hw2:=MatH.up hw2 s11
 replace hw3:=MatH.up hw3 s11
 replace hw4:=MatH.up hw4 s11
 replace hw5:=MatH.up hw5 s11
 conv=>whnf
 have q12:=e30 m w x (by omega) _ _ hy
 rw[← hA2] at q12
 refine (k2.call q12).mono fun r H12 O12 s12 hr=>?_
 obtain⟨a2,rfl,k3⟩:=hr
 obtain⟨a2x,a2y,a2z,rfl⟩:=(k3.mem (u:=a2) (x:=(A2).1) (by simp)).sl
 replace hG:=GlobH.up hG s12
 replace hu:=MatH.up hu s12
 replace hg:=IntsC.up hg s12
 replace hy:=MatH.up hy s12
 replace hv2:=IntsC.up hv2 s12
 replace hw1:=MatH.up hw1 s12
 replace hw2:=MatH.up hw2 s12
 replace hw3:=MatH.up hw3 s12
 replace hw4:=MatH.up hw4 s12
 replace hw5:=MatH.up hw5 s12
 conv=>whnf
 have q13:=e31 m w (by omega) _ _ hy
 rw[← hA3] at q13
 refine (k3.call q13).mono fun r H13 O13 s13 hr=>?_
 obtain⟨a3,rfl,k4⟩:=hr
 obtain⟨a3x,a3y,a3z,rfl⟩:=(k4.mem (u:=a3) (x:=(A3).1) (by simp)).sl
 replace hG:=GlobH.up hG s13
 replace hu:=MatH.up hu s13
 replace hg:=IntsC.up hg s13
 replace hy:=MatH.up hy s13
 replace hv2:=IntsC.up hv2 s13
 replace hw1:=MatH.up hw1 s13
 replace hw2:=MatH.up hw2 s13
 replace hw3:=MatH.up hw3 s13
 replace hw4:=MatH.up hw4 s13
 replace hw5:=MatH.up hw5 s13
 conv=>whnf
 have q14:=e32 m w (by omega) _ _ hy
 rw[← hA4] at q14
 refine (k4.call q14).mono fun r H14 O14 s14 hr=>?_
 obtain⟨a4,rfl,k5⟩:=hr
 obtain⟨a4x,a4y,a4z,rfl⟩:=(k5.mem (u:=a4) (x:=(A4).1) (by simp)).sl
 replace hG:=GlobH.up hG s14
 replace hu:=MatH.up hu s14
 replace hg:=IntsC.up hg s14
 replace hy:=MatH.up hy s14
 replace hv2:=IntsC.up hv2 s14
 replace hw1:=MatH.up hw1 s14
 replace hw2:=MatH.up hw2 s14
 replace hw3:=MatH.up hw3 s14
 replace hw4:=MatH.up hw4 s14
 replace hw5:=MatH.up hw5 s14
 conv=>whnf
 have q15:=e33 m w (by omega) _ _ hy
 rw[← hA5] at q15
 refine (k5.call q15).mono fun r H15 O15 s15 hr=>?_
 obtain⟨a5,rfl,k6⟩:=hr
 obtain⟨a5x,a5y,a5z,rfl⟩:=(k6.mem (u:=a5) (x:=(A5).1) (by simp)).sl
 replace hG:=GlobH.up hG s15
 replace hu:=MatH.up hu s15
 replace hg:=IntsC.up hg s15
 replace hy:=MatH.up hy s15
 replace hv2:=IntsC.up hv2 s15
 replace hw1:=MatH.up hw1 s15
 replace hw2:=MatH.up hw2 s15
 replace hw3:=MatH.up hw3 s15
 replace hw4:=MatH.up hw4 s15
 replace hw5:=MatH.up hw5 s15
 conv=>whnf
 have q16:=e34 m w (by omega) _ _ hy
 rw[← hA6] at q16
 refine (q16).val fun H16 s16=>?_
 replace hG:=GlobH.up hG s16
 replace hu:=MatH.up hu s16
 replace hg:=IntsC.up hg s16
 replace hy:=MatH.up hy s16
 replace hv2:=IntsC.up hv2 s16
 replace hw1:=MatH.up hw1 s16
 replace hw2:=MatH.up hw2 s16
 replace hw3:=MatH.up hw3 s16
 replace hw4:=MatH.up hw4 s16
 replace hw5:=MatH.up hw5 s16
 dsimp only[putK,setK]
 refine opsK_stop fun K1 hK1=>?_
 conv=>whnf
 intro _
 conv=>whnf
 rw[← hK1]
 clear hK1 K1
 conv=>whnf
 have q17:=e35 m (by omega) _ _ hy
 rw[← hA7] at q17
 refine (q17).val fun H17 s17=>?_
 replace hG:=GlobH.up hG s17
 replace hu:=MatH.up hu s17
 replace hg:=IntsC.up hg s17
 replace hy:=MatH.up hy s17
 replace hv2:=IntsC.up hv2 s17
 replace hw1:=MatH.up hw1 s17
 replace hw2:=MatH.up hw2 s17
 replace hw3:=MatH.up hw3 s17
 replace hw4:=MatH.up hw4 s17
 replace hw5:=MatH.up hw5 s17
 dsimp only[putK,setK]
 refine opsK_stop fun K1 hK1=>?_
 conv=>whnf
 intro _
 conv=>whnf
 rw[← hK1]
 clear hK1 K1
 conv=>whnf
 rw[eqC7]
 conv=>whnf
 rw[eqC5]
 conv=>whnf
 rw[eqC5]
 conv=>whnf
 replace k6:OwnL emp O15 [(.slice a1x a1y a1z,A1.1),(.slice a2x a2y a2z,A2.1),(.slice a3x a3y a3z,A3.1),(.slice a4x a4y a4z,A4.1),(.slice a5x a5y a5z,A5.1)]:=k6
 refine W_loop (pol:=(fun | 25=>.imm | _=>.loc)) Γok (Nat × PH × PH) (fun i=>i.1≤5∧Sub H17 i.2.1∧OwnL emp i.2.2 (List.drop i.1 [(.slice a1x a1y a1z,A1.1),(.slice a2x a2y a2z,A2.1),(.slice a3x a3y a3z,A3.1),(.slice a4x a4y a4z,A4.1),(.slice a5x a5y a5z,A5.1)])) (fun i=>5 - i.1) (fun i=>[(171,.v (.int .i64 i.1))]) (fun _=>[]) (fun i=>i.2.1) (fun i=>i.2.2) ⟨(0,H17,O15),⟨by simp,Sub.refl _,k6⟩,rfl,rfl,?_⟩ ?_
 ·conv=>whnf
  repeat (refine⟨rfl,?_⟩;conv=>whnf)
  exact trivial
 rintro ⟨i,H20,O20⟩ ⟨h1,t9,k7⟩
 dsimp only at h1 t9 k7
 rcases (show i=0∨i=1∨i=2∨i=3∨i=4∨i=5 by omega) with rfl | rfl | rfl | rfl | rfl | rfl
 ·conv=>whnf
  refine W_draw (pol:=(fun | 25=>.imm | _=>.loc)) Γok mixes [(0,.pendO),(1,.pendO),(2,.pendO),(3,.pendO),(4,.pendO),(5,.pendO),(6,.lock),(7,.pendO)] 198 (by kernel_rfl) rfl ?_
  conv=>whnf
  refine (e18L k7 (List.mem_cons_self ..) (hw1.up t9)).mono fun r H21 O21 s21 hr=>?_
  obtain⟨o1,rfl⟩:=hr
  replace k7:=k7.up o1
  conv=>whnf
  refine (c24L k7).mono fun r H22 O22 t10 k8=>?_
  conv=>whnf
  refine⟨(1,H22,O22),⟨by dsimp only;omega,(t9.trans s21).trans t10,k8⟩,by dsimp only;omega,?_⟩
  conv=>whnf
  refine⟨rfl,rfl,?_⟩
  conv=>whnf
  repeat (refine⟨rfl,?_⟩;conv=>whnf)
  exact trivial
 ·conv=>whnf
  refine W_draw (pol:=(fun | 25=>.imm | _=>.loc)) Γok mixes [(0,.pendO),(1,.pendO),(2,.pendO),(3,.pendO),(4,.pendO),(5,.pendO),(6,.lock),(7,.pendO)] 198 (by kernel_rfl) rfl ?_
  conv=>whnf
  refine (e18L k7 (List.mem_cons_self ..) (hw2.up t9)).mono fun r H21 O21 s21 hr=>?_
  obtain⟨o1,rfl⟩:=hr
  replace k7:=k7.up o1
  conv=>whnf
  refine (c24L k7).mono fun r H22 O22 t10 k8=>?_
  conv=>whnf
  refine⟨(2,H22,O22),⟨by dsimp only;omega,(t9.trans s21).trans t10,k8⟩,by dsimp only;omega,?_⟩
  conv=>whnf
  refine⟨rfl,rfl,?_⟩
  conv=>whnf
  repeat (refine⟨rfl,?_⟩;conv=>whnf)
  exact trivial
 ·conv=>whnf
  refine W_draw (pol:=(fun | 25=>.imm | _=>.loc)) Γok mixes [(0,.pendO),(1,.pendO),(2,.pendO),(3,.pendO),(4,.pendO),(5,.pendO),(6,.lock),(7,.pendO)] 198 (by kernel_rfl) rfl ?_
  conv=>whnf
  refine (e18L k7 (List.mem_cons_self ..) (hw3.up t9)).mono fun r H21 O21 s21 hr=>?_
  obtain⟨o1,rfl⟩:=hr
  replace k7:=k7.up o1
  conv=>whnf
  refine (c24L k7).mono fun r H22 O22 t10 k8=>?_
  conv=>whnf
  refine⟨(3,H22,O22),⟨by dsimp only;omega,(t9.trans s21).trans t10,k8⟩,by dsimp only;omega,?_⟩
  conv=>whnf
  refine⟨rfl,rfl,?_⟩
  conv=>whnf
  repeat (refine⟨rfl,?_⟩;conv=>whnf)
  exact trivial
 ·conv=>whnf
  refine W_draw (pol:=(fun | 25=>.imm | _=>.loc)) Γok mixes [(0,.pendO),(1,.pendO),(2,.pendO),(3,.pendO),(4,.pendO),(5,.pendO),(6,.lock),(7,.pendO)] 198 (by kernel_rfl) rfl ?_
  conv=>whnf
  refine (e18L k7 (List.mem_cons_self ..) (hw4.up t9)).mono fun r H21 O21 s21 hr=>?_
  obtain⟨o1,rfl⟩:=hr
  replace k7:=k7.up o1
  conv=>whnf
  refine (c24L k7).mono fun r H22 O22 t10 k8=>?_
  conv=>whnf
  refine⟨(4,H22,O22),⟨by dsimp only;omega,(t9.trans s21).trans t10,k8⟩,by dsimp only;omega,?_⟩
  conv=>whnf
  refine⟨rfl,rfl,?_⟩
  conv=>whnf
  repeat (refine⟨rfl,?_⟩;conv=>whnf)
  exact trivial
 ·conv=>whnf
  refine W_draw (pol:=(fun | 25=>.imm | _=>.loc)) Γok mixes [(0,.pendO),(1,.pendO),(2,.pendO),(3,.pendO),(4,.pendO),(5,.pendO),(6,.lock),(7,.pendO)] 198 (by kernel_rfl) rfl ?_
  conv=>whnf
  refine (e18L k7 (List.mem_cons_self ..) (hw5.up t9)).mono fun r H21 O21 s21 hr=>?_
  obtain⟨o1,rfl⟩:=hr
  replace k7:=k7.up o1
  conv=>whnf
  refine (c24L k7).mono fun r H22 O22 t10 k8=>?_
  conv=>whnf
  refine⟨(5,H22,O22),⟨by dsimp only;omega,(t9.trans s21).trans t10,k8⟩,by dsimp only;omega,?_⟩
  conv=>whnf
  refine⟨rfl,rfl,?_⟩
  conv=>whnf
  repeat (refine⟨rfl,?_⟩;conv=>whnf)
  exact trivial
 conv=>whnf
 have hs1:=e18 m m _ _ _ (hy.up t9) (hu.up t9) (by omega) (fun r hr=>by have:=hmr r hr;omega)
 rw[eqM_refl] at hs1
 refine hs1.val fun H30 s30=>?_
 conv=>whnf
 have hs2:=d30 g g (by omega) _ _ _ ((hv2.up t9).up s30) ((hg.up t9).up s30)
 rw[decide_eq_true rfl] at hs2
 refine hs2.val fun H31 s31=>?_
 conv=>whnf
 refine (e9 _ (((hG.up t9).up s30).up s31)).val fun H32 s32=>?_
 conv=>whnf
theorem append_many' {H O : PH} {t:TypeId} {sz by_:Nat} {z:List Value} {s x:Value} {K:Value→PH→Prop} {xs ys:List (List Value)} (hs:OwnS O sz t s xs) (hz:z.length=sz) (hys:∀ y∈ys,y.length=sz) (hone:∀ v∈ys.flatten,v.oneCell'=true)
 (hx:∃ src cap,x=.slice src ys.length cap∧(src=none→ys=[])∧∀ a,src=some a→0 < ys.length→Rd H O a (ys.length*sz) ys.flatten) (hb:(xs.length+ys.length)*(by_+1)≤140737488355328)
 (k:∀ v O',OwnS O' sz t v (xs++ys)→(∀ n o,O n=some o→(∀ cap,s ≠ .slice (some ⟨n,0,none⟩) xs.length cap)→O' n=some o)→K v O'):appendK H O t sz by_ z s x K:=by
 obtain⟨src,capx,rfl,hsrc,hrd⟩:=hx
 obtain⟨hlen,hs⟩:=hs
 have hfl:=flat_length hlen
 have hfy:=flat_length hys
 have hlen':∀ x∈xs++ys,x.length=sz:=by
  intro x hx
  rcases List.mem_append.1 hx with h | h
  ·exact hlen x h
  ·exact hys x h
 have hfl':(xs++ys).flatten=xs.flatten++ys.flatten:=by simp
 have hnil:ys.length=0→ys=[]:=by simp
 unfold appendK
 have key:∀ (b:Nat) (cap:Nat),H b=none→O b=none→xs.length+ys.length≤cap→K (.slice (some ⟨b,0,none⟩) (xs.length+ys.length) cap) (ins O b (.cells ⟨xs.flatten++ys.flatten++(List.replicate (cap - (xs.length+ys.length)) z).flatten⟩ t (0,0))):=by
  intro b cap hb1 hb2 hcap
  refine k _ _ ⟨hlen',.inr ⟨b,cap,(List.replicate (cap - (xs.length+ys.length)) z).flatten,by simp,by rw[ins_same,hfl'],by simpa using hcap,?_⟩⟩ (fun n o hn _=>(ins_ne _ _ fun e=>by rw[e,hb2] at hn;cases hn).trans hn)
  ·rw[List.length_flatten];simp[hz]
 have same:∀ v,ys.length=0→OwnS O sz t v xs→K v O:=by
  intro v h0 h
  have:=hnil h0
  subst this
  exact k v O (by simpa using h) (fun n o h1 _=>h1)
 rcases hs with⟨rfl,rfl⟩ | ⟨b,cap,spare,rfl,hO,hcap,hsp⟩
 ·refine⟨none,0,0,src,ys.length,capx,ys.flatten,rfl,rfl,hfy,hone,fun h=>by rw[hsrc h];rfl,hrd,by simpa using hb,hz,fun h0 _=>same _ h0 ⟨by simp,.inl ⟨rfl,rfl⟩⟩,fun _ h=>by omega,fun _=>⟨[],by simp,fun _=>rfl,(fun a h=>by cases h),fun b cap h1 h2 h3=>?_⟩⟩
  have:=key b cap h1 h2 (by simpa using h3)
  simpa using this
 ·refine⟨some ⟨b,0,none⟩,xs.length,cap,src,ys.length,capx,ys.flatten,rfl,rfl,hfy,hone,fun h=>by rw[hsrc h];rfl,hrd,hb,hz,fun h0 _=>same _ h0 ⟨hlen,.inr ⟨b,cap,spare,rfl,hO,hcap,hsp⟩⟩,fun _ h=>⟨b,0,_,t,rfl,hO,?_,?_⟩,fun h=>⟨xs.flatten,hfl,(fun h=>by cases h),fun a ha=>?_,fun b' cap' h1 h2 h3=>key b' cap' h1 h2 h3⟩⟩
  ·rw[List.length_append,hfl,hsp,Nat.zero_add,← Nat.add_mul,← Nat.add_mul]
   exact Nat.mul_le_mul_right _ (by omega)
  ·have e1:(xs.flatten++spare).take (0+xs.length*sz)=xs.flatten:=by rw[Nat.zero_add,← hfl];simp
   have e2:(xs.flatten++spare).drop (0+xs.length*sz+ys.length*sz)=spare.drop (ys.length*sz):=by
    rw[Nat.zero_add,← List.drop_drop,← hfl];simp
   rw[e1,e2]
   refine k _ _ ⟨hlen',.inr ⟨b,cap,spare.drop (ys.length*sz),by simp,by rw[ins_same,hfl'],by simpa using h,?_⟩⟩ (fun n o hn hne=>(ins_ne _ _ fun e=>hne cap (by rw[e])).trans hn)
   ·rw[List.length_drop,hsp,List.length_append,← Nat.sub_mul]
    congr 1
    omega
  ·cases ha
   refine⟨rfl,hfl,_,t,(0,0),.inr hO,?_⟩
   dsimp only
   rw[List.drop_zero,← hfl]
   simp
theorem Cl.pre {P : Program} {f:FuncId} {args:List Value} {H M H' M':PH} {Q:Value→PH→PH→Prop} (r:Repart H M H' M') (h:Cl P f args H' M' Q):Cl P f args H M Q:=by
 unfold Cl at *
 have hm':∀ n,M n=none→M' n=none:=fun n hm=>by
  cases e:M' n with
  | none=>rfl
  | some o=>rw[r.own n o e] at hm;cases hm
 refine⟨h.1,fun w hH hM hd=>(h.2 w (fun n o hn=>(r.from_ n o hn).elim (hH n o) (hM n o)) (In.sub hM r.own) r.dis).mono ?_⟩
 rintro e w' ⟨v,H'',M'',he,p,hq⟩
 refine⟨v,H'',M'',he,⟨r.sub.trans p.sub,p.inH,p.inM,p.dis,fun n hn hm=>?_,p.frm.mono fun n hn hm=>hm' n hm⟩,hq⟩
 obtain⟨h1,h2⟩:=p.old n hn (hm' n hm)
 refine⟨h1.trans ?_,h2⟩
 cases e:H' n with
 | some o=>
  rcases r.from_ n o e with h | h
  ·exact h.symm
  ·rw[hm] at h;cases h
 | none=>
  cases e2:H n with
  | none=>rfl
  | some o=>rw[r.sub n o e2] at e;cases e
theorem Cl.pubAll {P : Program} {f:FuncId} {args:List Value} {H M:PH} {Q:Value→PH→PH→Prop} (he:Ent P f) (h:Dis H M→Cl P f args (un H M) emp Q):Cl P f args H M Q:=by
 by_cases hd:Dis H M
 ·exact Cl.pre (.all hd) (h hd)
 ·unfold Cl
  exact⟨he,fun w _ _ hd'=>absurd hd' hd⟩
theorem OwnS.upS {O O' : PH} {sz:Nat} {t:TypeId} {v:Value} {xs:List (List Value)} (h:OwnS O sz t v xs) (hs:Sub O O'):OwnS O' sz t v xs:=OwnS.keep h fun n _ hn=>hs n _ hn
theorem un_left (H O : PH):Sub H (un H O):=fun n o h=>by simp[un,h]
theorem OwnS.other {O : PH} {sz:Nat} {t t':TypeId} {v:Value} {xs:List (List Value)} {b:Nat} {c:List Value} {o:Obj} (h:OwnS O sz t v xs) (hb:O b=some (.cells ⟨c⟩ t' (0,0))) (ht:t' ≠ t):OwnS (ins O b o) sz t v xs:=by
 obtain⟨h1,h2⟩:=h
 refine⟨h1,?_⟩
 rcases h2 with h2 | ⟨b',cap,sp,e,ho,q⟩
 ·exact .inl h2
 ·refine .inr ⟨b',cap,sp,e,(ins_ne _ _ fun e=>?_).trans ho,q⟩
  rw[e,hb] at ho
  cases ho
  exact ht rfl
theorem OwnS.recsU {H O : PH} {sz:Nat} {t:TypeId} {v:Value} {cs:List (List Value)} (h:OwnS O sz t v cs) (hd:Dis H O):RecsH (un H O) sz v cs:=by
 obtain⟨h1,h2⟩:=h
 rcases h2 with⟨e,h⟩ | ⟨b',cap,sp,e,ho,q⟩
 ·subst h
  exact⟨h1,none,0,e,.inl ⟨rfl,rfl⟩⟩
 ·refine⟨h1,_,cap,e,.inr ⟨b',0,_,_,_,rfl,un_right hd ho,?_⟩⟩
  simp
theorem OwnS.neq {O : PH} {sz:Nat} {t t':TypeId} {v:Value} {xs:List (List Value)} {b:Nat} {c:List Value} (h:OwnS O sz t v xs) (hb:O b=some (.cells ⟨c⟩ t' (0,0))) (ht:t' ≠ t):∀ cap,v ≠ .slice (some ⟨b,0,none⟩) xs.length cap:=by
 intro cap e
 obtain⟨h1,h2⟩:=h
 rcases h2 with⟨h2,_⟩ | ⟨b',cap',sp,e',ho,q⟩
 ·rw[h2] at e;cases e
 ·rw[e'] at e
  cases e
  rw[ho] at hb
  cases hb
  exact ht rfl
def sqM (m : Mx):Prop:=0 < m.length∧m.length≤8∧∀ r∈m,r.length=m.length
def sqB (m : Mx):Bool:=decide (0 < m.length) && (decide (m.length≤8) && m.all fun r=>decide (r.length=m.length))
theorem sqM_of {m : Mx} (h:sqB m=true):sqM m:=by
 unfold sqB at h
 simp only[Bool.and_eq_true,decide_eq_true_eq,List.all_eq_true] at h
 exact⟨h.1,h.2.1,h.2.2⟩
theorem sqM.row {m : Mx} (h:sqM m) {i:Nat} (hi:i < m.length):m[i].length=m.length:=h.2.2 _ (List.getElem_mem hi)
theorem RowsS.setN {O : PH} {us:List Value} {m:Mx} (h:RowsS O us m) {i k:Nat} (hi:i < m.length) (hk:k < m[i].length) (x:P4 × Int) :
 ∃ b c cs,us[i]?=some (.slice (some ⟨b,0,none⟩) m[i].length c)∧O b=some (.cells ⟨cs⟩ 25 (0,0))∧0+k*5+5≤cs.length ∧
  RowsS (ins O b (.cells ⟨cs.take (0+k*5)++cellsOf x++cs.drop (0+k*5+5)⟩ 25 (0,0))) us (m.set i (m[i].set k x)):=by
 have hu:i < us.length:=by rw[h.len];exact hi
 have hr:=h.row i us[i] m[i] (List.getElem?_eq_getElem hu) (List.getElem?_eq_getElem hi)
 rcases hr.2 with⟨_,e⟩ | ⟨b,cap,spare,e,hO,hcap,hsp⟩
 ·have:m[i]=[]:=by simpa using e
  rw[this] at hk
  simp at hk
 have hl:=cellsN_length m[i]
 have hcs:((m[i].map cellsOf).flatten++spare)=cellsN m[i]++spare:=rfl
 have e1:(cellsN m[i]++spare).take (0+k*5)++cellsOf x++(cellsN m[i]++spare).drop (0+k*5+5)=cellsN (m[i].set k x)++spare:=by
  rw[← cellsN_set m[i] k x hk,List.take_append_of_le_length (by omega),List.drop_append_of_le_length (by omega)]
  simp
 refine⟨b,cap,_,?_,hO,by rw[hcs,List.length_append,hl];omega,?_,fun j u r hu' hr'=>?_,h.apart⟩
 ·rw[List.getElem?_eq_getElem hu,e]
  simp
 ·rw[List.length_set]
  exact h.len
 ·rw[hcs,e1]
  by_cases ej:j=i
  ·subst ej
   rw[List.getElem?_set_self hi] at hr'
   cases hr'
   rw[List.getElem?_eq_getElem hu] at hu'
   cases hu'
   refine⟨fun y hy=>?_,.inr ⟨b,cap,spare,by rw[e];simp,ins_same _ _ _,by simpa using hcap,by simpa using hsp⟩⟩
   obtain⟨z,_,rfl⟩:=List.mem_map.1 hy
   rfl
  ·rw[List.getElem?_set_ne (Ne.symm ej)] at hr'
   have hrj:=h.row j u r hu' hr'
   refine⟨hrj.1,hrj.2.imp id ?_⟩
   rintro ⟨b',cap',sp',e',ho',q'⟩
   refine⟨b',cap',sp',e',(ins_ne _ _ fun eb=>ej ?_).trans ho',q'⟩
   subst eb
   refine h.apart j i b' _ _ _ _ (by rw[hu',e']) (by rw[List.getElem?_eq_getElem hu,e])
theorem sqM.set {m : Mx} (h:sqM m) {i k:Nat} (hi:i < m.length) (x:P4 × Int):sqM (m.set i (m[i].set k x)):=by
 refine⟨by rw[List.length_set];exact h.1,by rw[List.length_set];exact h.2.1,fun r hr=>?_⟩
 rw[List.length_set]
 rcases List.mem_or_eq_of_mem_set hr with hr | rfl
 ·exact h.2.2 r hr
 ·rw[List.length_set]
  exact h.row hi
theorem c15x (m : Mx) (H O:PH) (v:Value) (hv:MatH H v m) (hm:sqM m) :
 Cl Tryz.prog 11 [v] H O fun r _ O'=>Sub O O'∧∃ us,OwnS O' 1 22 r (us.map fun u=>[u])∧RowsS O' us m:=
 ((c15o m H v hv (by have:=hm.2.1;omega) (fun r hr=>by rw[hm.2.2 r hr];have:=hm.2.1;omega)).frame (Parts.emp O)).mono fun r H' O' _ hq=>by
  obtain⟨M',hp,us,h1,h2⟩:=hq
  exact⟨hp.right,us,OwnS.upS h1 hp.left,h2.keep fun n cs hn=>hp.left _ _ hn⟩
structure OpsV (H : PH) (vs:List Value) (ms:List Mx):Prop where
 len:vs.length=ms.length
 mat:∀ (i:Nat) (m:Mx) (u:Value),ms[i]?=some m→vs[i]?=some u→MatH H u m
 sq:∀ m∈ms,sqM m
theorem OpsV.up {H H' : PH} {vs:List Value} {ms:List Mx} (h:OpsV H vs ms) (hs:Sub H H'):OpsV H' vs ms:=⟨h.len,fun i m u h1 h2=>MatH.up (h.mat i m u h1 h2) hs,h.sq⟩
theorem OpsV.snoc {H : PH} {vs:List Value} {ms:List Mx} {u:Value} {m:Mx} (h:OpsV H vs ms) (hu:MatH H u m) (hm:sqM m):OpsV H (vs++[u]) (ms++[m]):=by
 refine⟨by simp[h.len],fun i m' u' h1 h2=>?_,fun m' hm'=>?_⟩
 ·by_cases e:i < ms.length
  ·rw[List.getElem?_append_left e] at h1
   rw[List.getElem?_append_left (by rw[h.len];exact e)] at h2
   exact h.mat i m' u' h1 h2
  ·by_cases e2:i=ms.length
   ·subst e2
    rw[List.getElem?_concat_length] at h1
    rw[← h.len,List.getElem?_concat_length] at h2
    cases h1
    cases h2
    exact hu
   ·rw[List.getElem?_eq_none (by simp;omega)] at h1
    cases h1
 ·rcases List.mem_append.1 hm' with h' | h'
  ·exact h.sq m' h'
  ·simp only[List.mem_cons,List.not_mem_nil,or_false] at h'
   subst h'
   exact hm
theorem OpsV.nil (H : PH):OpsV H [] []:=⟨rfl,fun i m u h=>(by cases h),fun m h=>(by cases h)⟩
theorem flat_ones' : ∀ us:List Value,(us.map fun u=>[u]).flatten=us
 | []=>rfl
 | u::us=>by
  simp only[List.map_cons,List.flatten_cons,flat_ones' us]
  rfl
theorem OpsV.mats {H O : PH} {v:Value} {vs:List Value} {ms:List Mx} (h:OpsV H vs ms) (ho:OwnS O 1 23 v (vs.map fun u=>[u])) (hd:Dis H O) (h0:0 < ms.length):∃ b cap,v=.slice (some ⟨b,0,none⟩) ms.length cap∧MatsH (un H O) v ms:=by
 rcases ho.2 with⟨_,e⟩ | ⟨b,cap,sp,e,hO,hcap,hsp⟩
 ·have:vs=[]:=by simpa using e
  have:=h.len
  subst vs
  simp at this
  omega
 rw[List.length_map,h.len] at e
 refine⟨b,cap,e,vs,h.len,⟨_,_,e,.inr ⟨b,0,_,_,_,rfl,un_right hd hO,?_⟩⟩,fun i m u h1 h2=>MatH.up (h.mat i m u h1 h2) (un_left H O)⟩
 rw[List.drop_zero,flat_ones']
 simp
theorem MatsH.rdI {H : PH} {b off n cap:Nat} {ms:List Mx} (h:MatsH H (.slice (some ⟨b,off,none⟩) n cap) ms) {i:Nat} (hi:i < ms.length) :
 ∃ u,(∀ H' O,Sub H H'→Rd H' O ⟨b,off+i*1,none⟩ 1 [u])∧MatH H u ms[i]:=by
 obtain⟨b',off',u,e,h1,h2⟩:=h.rd hi
 cases e
 exact⟨u,fun H' O hs=>Rd_up (h1 emp) hs,h2⟩
def fillV (n N k : Nat):Vec:=(List.range N).map fun j=>if j < k then (⟨(j:Int).tmod 3 - 1,(j:Int).tmod 2,0,0⟩,(n:Int)) else (P4.zero,0)
theorem fillV_len (n N k : Nat):(fillV n N k).length=N:=by simp[fillV]
theorem fillV_zero (n N : Nat):fillV n N 0=zeros N:=by
 unfold fillV zeros
 refine List.ext_getElem (by simp) fun j h1 h2=>by simp
theorem fillV_set (n N k : Nat) (hk:k < N):(fillV n N k).set k (⟨(k:Int).tmod 3 - 1,(k:Int).tmod 2,0,0⟩,(n:Int))=fillV n N (k+1):=by
 refine List.ext_getElem (by simp[fillV]) fun j h1 h2=>?_
 rw[List.getElem_set]
 simp only[fillV,List.getElem_map,List.getElem_range]
 by_cases e:k=j
 ·subst e
  simp
 ·rw[if_neg e]
  by_cases h:j < k
  ·rw[if_pos h,if_pos (by omega)]
  ·rw[if_neg h,if_neg (by omega)]
theorem sq_of : ∀ n:Nat,n < 3→sqB (ofV (fillV n (2*2 ^ n) (2*2 ^ n))).1=true:=by decide +kernel
theorem sq_mix : ∀ n:Nat,n < 3→sqB (mixedI n).1=true:=by decide +kernel
theorem e52any (k : Int) (H:PH):Cl Tryz.prog 52 [.int .i64 k] H emp fun r _ _=>∃ a,r=.int .i64 a:=by
 refine Cl_of (pol:=(fun | 2=>.imm | _=>.loc)) Γok Tryz.func52 (by kernel_rfl) rfl ?_
 conv=>whnf
 iterate 8
  all_goals first
   | exact⟨_,rfl⟩
   | (refine if_intro (fun _=>?_) (fun _=>?_)<;>conv=>whnf)
theorem clamp3 (a : Int):∃ j:Nat,(if (if a < 3 then a else 3) > 1 then (if a < 3 then a else 3) else 1)=(j:Int)∧1≤j∧j≤3:=by
 refine⟨(if (if a < 3 then a else 3) > 1 then (if a < 3 then a else 3) else 1).toNat,?_,?_,?_⟩<;>split<;>(try split)<;>omega
theorem pre_ints {H : PH} {b:Nat} {l:List Int} {n cap:Nat} {fr:Nat × Nat} (hb:H b=some (.cells ⟨l.map fun x=>.int .i64 x⟩ 3 fr)) (hn:n≤l.length) (hc:n≤cap):IntsC H (.slice (some ⟨b,0,none⟩) n cap) (l.take n):=by
 refine⟨_,_,by rw[List.length_take,Nat.min_eq_left hn],by rw[List.length_take,Nat.min_eq_left hn];exact hc,⟨_,_,by rw[List.length_take,Nat.min_eq_left hn],.inr ⟨b,0,_,_,_,rfl,hb,?_⟩⟩⟩
 rw[List.drop_zero,List.length_map,List.length_take,Nat.min_eq_left hn,List.map_take]
theorem num_sl {H : PH} {b n:Nat} {l:Vec} {fr:Nat × Nat} (hb:H b=some (.cells ⟨cellsN l⟩ 25 fr)) (hn:n=l.length:=by rfl):NumH H (.slice (some ⟨b,0,none⟩) n n) l:=by
 subst hn
 refine⟨_,_,rfl,.inr ⟨b,0,_,_,_,rfl,hb,?_⟩⟩
 rw[List.drop_zero]
 exact List.take_of_length_le (by simp)
theorem at_nums {L : Vec} {i:Nat} {K:List Value→Prop} (hi:i < L.length) (h:∀ x,K (cellsOf x)):dropK (cellsN L) (0+((i:Nat):Int).toNat*5) fun cs=>takeK cs 5 K:=by
 refine dropK_iff.2 ⟨?_,takeK_iff.2 ⟨?_,?_⟩⟩
 ·rw[cellsN_length,Int.toNat_natCast]
  omega
 ·rw[List.length_drop,cellsN_length,Int.toNat_natCast]
  omega
 ·rw[Int.toNat_natCast,cellsN_at hi]
  exact h _
theorem at_intsB {L : List Int} {i:Nat} {K:List Value→Prop} (hi:i < L.length) (h:∀ x,x∈L→K [.int .i64 x]):dropK (L.map fun x=>Value.int .i64 x) (0+((i:Nat):Int).toNat*1) fun cs=>takeK cs 1 K:=by
 have e:((L.map fun x=>Value.int .i64 x).drop (0+i*1)).take 1=[.int .i64 L[i]]:=by
  rw[Nat.zero_add,Nat.mul_one,← List.map_drop,← List.map_take,List.drop_eq_getElem_cons hi]
  rfl
 refine dropK_iff.2 ⟨?_,takeK_iff.2 ⟨?_,?_⟩⟩
 ·rw[List.length_map,Int.toNat_natCast]
  omega
 ·rw[List.length_drop,List.length_map,Int.toNat_natCast]
  omega
 ·rw[Int.toNat_natCast,e]
  exact h _ (List.getElem_mem hi)
theorem gates_nil (H : PH):GatesH H (.slice none 0 0) []:=⟨[],rfl,⟨fun _ h=>(by cases h),⟨_,_,rfl,.inl ⟨rfl,rfl⟩⟩⟩,fun i g c h=>(by cases h)⟩
theorem num_nil (H : PH):NumH H (.slice none 0 0) []:=⟨_,_,rfl,.inl ⟨rfl,rfl⟩⟩
abbrev sl (b n : Nat):Value:=.slice (some ⟨b,0,none⟩) n n
def i1 (H : PH) (b:Nat) (x:Int):Prop:=H b=some (.cells ⟨[.int .i64 x]⟩ 3 (0,0))
def polDs : Tmp→Pol:=fun | 33=>.imm | 37=>.imm | 40=>.imm | 41=>.imm | 44=>.imm | 47=>.imm | 48=>.imm | 85=>.imm | 108=>.imm | 119=>.imm | 132=>.imm | 145=>.imm | 157=>.imm | 159=>.imm | 163=>.imm | 168=>.imm | 171=>.imm | 229=>.imm | 269=>.imm | 276=>.imm | 322=>.imm | 327=>.imm | 329=>.imm | 335=>.imm | 375=>.imm | 384=>.imm | 394=>.imm | 404=>.imm | 49=>.own | 55=>.own | 15=>.own | 23=>.own | 349=>.own | 361=>.own | _=>.loc
structure RI (H1 O1 : PH) (S:Nat→Value→PH→Prop) (k0:Nat) (T:Value→PH→PH→Prop) (T2:Value→Value→PH→PH→Prop) (L:Nat→Bool) (V:Nat→Value) (H O:PH):Prop where
 sub:Sub H1 H
 own:L k0=false→O=O1
 sp:∀ i,L i=true→S i (V i) H
 new:L k0=true→L (k0+1)=false→T (V k0) H O
 nxt:L (k0+1)=true→T2 (V k0) (V (k0+1)) H O
 bef:L (k0+1)=true→L k0=true
theorem setL_nq {L : Nat→Bool} {i k:Nat} (h:i ≠ k):setL L i k=L k:=by
 simp only[setL,beq_eq_false_iff_ne.2 (Ne.symm h),Bool.false_or]
theorem setV_nq {V : Nat→Value} {i k:Nat} {v:Value} (h:i ≠ k):setV V i v k=V k:=by
 simp only[setV,beq_eq_false_iff_ne.2 (Ne.symm h),cond_false]
theorem setL_aq {L : Nat→Bool} {i:Nat}:setL L i i=true:=by simp[setL]
theorem setV_aq {V : Nat→Value} {i:Nat} {v:Value}:setV V i v i=v:=by simp[setV]
theorem RI.step {H1 O1 : PH} {S:Nat→Value→PH→Prop} {k0:Nat} {T:Value→PH→PH→Prop} {T2:Value→Value→PH→PH→Prop} (up:∀ {i x H H'},S i x H→Sub H H'→S i x H') (upT:∀ {x H H' O},T x H O→Sub H H'→T x H' O) (upT2:∀ {x y H H' O},T2 x y H O→Sub H H'→T2 x y H' O)
 {L:Nat→Bool} {V:Nat→Value} {H O H':PH} (h:RI H1 O1 S k0 T T2 L V H O) {i:Nat} {v:Value} (hs:Sub H H') (h1:i ≠ k0) (h2:i ≠ k0+1) (hv:S i v H'):RI H1 O1 S k0 T T2 (setL L i) (setV V i v) H' O:=by
 refine⟨h.sub.trans hs,fun h'=>h.own (by rwa [setL_nq h1] at h'),fun k hk=>?_,fun h' h''=>?_,fun h'=>?_,fun h'=>?_⟩
 ·by_cases e:i=k
  ·subst e
   rw[setV_aq]
   exact hv
  ·rw[setV_nq e]
   rw[setL_nq e] at hk
   exact up (h.sp k hk) hs
 ·rw[setL_nq h1] at h'
  rw[setL_nq h2] at h''
  rw[setV_nq h1]
  exact upT (h.new h' h'') hs
 ·rw[setL_nq h2] at h'
  rw[setV_nq h1,setV_nq h2]
  exact upT2 (h.nxt h') hs
 ·rw[setL_nq h2] at h'
  rw[setL_nq h1]
  exact h.bef h'
theorem RI.make {H1 O1 : PH} {S:Nat→Value→PH→Prop} {k0:Nat} {T:Value→PH→PH→Prop} {T2:Value→Value→PH→PH→Prop} (up:∀ {i x H H'},S i x H→Sub H H'→S i x H')
 {L:Nat→Bool} {V:Nat→Value} {H O H' O':PH} (h:RI H1 O1 S k0 T T2 L V H O) (hl:L k0=false) {v:Value} (hs:Sub H H') (hv:S k0 v H') (ht:T v H' O'):RI H1 O1 S k0 T T2 (setL L k0) (setV V k0 v) H' O':=by
 have hl1:L (k0+1)=false:=by
  cases e:L (k0+1) with
  | false=>rfl
  | true=>rw[h.bef e] at hl;cases hl
 have hne:k0 ≠ k0+1:=by omega
 refine⟨h.sub.trans hs,fun h'=>(by rw[setL_aq] at h';cases h'),fun k hk=>?_,fun h' h''=>by rw[setV_aq];exact ht,fun h'=>(by rw[setL_nq hne,hl1] at h';cases h'),fun h'=>setL_aq⟩
 by_cases e:k0=k
 ·subst e
  rw[setV_aq]
  exact hv
 ·rw[setV_nq e]
  rw[setL_nq e] at hk
  exact up (h.sp k hk) hs
theorem RI.done {H1 O1 : PH} {S:Nat→Value→PH→Prop} {k0:Nat} {T:Value→PH→PH→Prop} {T2:Value→Value→PH→PH→Prop} (up:∀ {i x H H'},S i x H→Sub H H'→S i x H')
 {L:Nat→Bool} {V:Nat→Value} {H O H' O':PH} (h:RI H1 O1 S k0 T T2 L V H O) (hl:L k0=true) {v:Value} (hs:Sub H H') (hv:S (k0+1) v H') (ht:T2 (V k0) v H' O'):RI H1 O1 S k0 T T2 (setL L (k0+1)) (setV V (k0+1) v) H' O':=by
 have hne:k0+1 ≠ k0:=by omega
 refine⟨h.sub.trans hs,fun h'=>(by rw[setL_nq hne,hl] at h';cases h'),fun k hk=>?_,fun h' h''=>(by rw[setL_aq] at h'';cases h''),fun h'=>by rw[setV_nq hne,setV_aq];exact ht,fun h'=>by rw[setL_nq hne];exact hl⟩
 by_cases e:k0+1=k
 ·subst e
  rw[setV_aq]
  exact hv
 ·rw[setV_nq e]
  rw[setL_nq e] at hk
  exact up (h.sp k hk) hs
theorem W_freeN {Γ : TypeId→TI} {P:Program} {r:Option Nat} {pol:Tmp→Pol} {ops:List Oper} {id:Nat} {env:List En} {loc:List (Option B)} {H O:PH} {KK:Exit→S→Prop} (hΓ:∀ t,TIOK P t (Γ t)) (hm:P.follows .mixedOrders=true) (n:Nat) (hc:okFree ops n=true) (hn:env.length=n)
 (I:(Nat→Bool)→(Nat→Value)→PH→PH→Prop) (h0:I (fun _=>false) (fun _=>undef) H O)
 (step:∀ (i:Nat) (o:Oper),ops[i]?=some o→∀ (L:Nat→Bool) (V:Nat→Value) (H' O':PH),I L V H' O'→L i=false→(∀ j,seesB ops o j=true→L j=true) →
  opK Γ P (pol (o.dst.getD 0)) o.op ⟨envAt ops env V (seesB ops o),loc,H',O'⟩ fun s' e=>(∃ l,s'.loc=loc++l)∧∃ v,e.val?=some v∧I (setL L i) (setV V i v) s'.H s'.O)
 (fin:∀ (L:Nat→Bool) (V:Nat→Value) (H' O':PH),I L V H' O'→(∀ j,j < ops.length→L j=true)→putAll V ops 0 env fun env'=>KK .normal ⟨env',loc,H',O'⟩) :
 W P r (.region id ⟨ops⟩ true) ⟨env,loc,H,O⟩ KK:=
 W_free hΓ hm n hc hn I h0 step fun L V H' O' hI hall=>by
  have:=putAll_put _ _ _ _ (fin L V H' O' hI hall)
  rwa [← putL_env hc] at this
def allOps (Q : Nat→Oper→Prop):Nat→List Oper→Prop
 | _,[]=>True
 | i,o::l=>Q i o∧allOps Q (i+1) l
theorem allOps_at {Q : Nat→Oper→Prop} (l:List Oper):∀ (n:Nat),allOps Q n l→∀ (i:Nat) (o:Oper),l[i]?=some o→Q (n+i) o:=by
 induction l with
 | nil=>intro n _ i o e;simp at e
 | cons x l ih=>
  intro n h i o e
  cases i with
  | zero=>
   rw[List.getElem?_cons_zero] at e
   cases e
   exact h.1
  | succ i=>
   rw[List.getElem?_cons_succ] at e
   have:=ih (n+1) h.2 i o e
   rwa [show n+(i+1)=n+1+i by omega]
theorem W_freeL {Γ : TypeId→TI} {P:Program} {r:Option Nat} {pol:Tmp→Pol} {ops:List Oper} {id:Nat} {env:List En} {loc:List (Option B)} {H O:PH} {KK:Exit→S→Prop} (hΓ:∀ t,TIOK P t (Γ t)) (hm:P.follows .mixedOrders=true) (n:Nat) (hc:okFree ops n=true) (hn:env.length=n)
 (I:(Nat→Bool)→(Nat→Value)→PH→PH→Prop) (h0:I (fun _=>false) (fun _=>undef) H O)
 (step:allOps (fun i o=>∀ (L:Nat→Bool) (V:Nat→Value) (H' O':PH),I L V H' O'→L i=false→(∀ j,seesB ops o j=true→L j=true) →
  opK Γ P (pol (o.dst.getD 0)) o.op ⟨envAt ops env V (seesB ops o),loc,H',O'⟩ fun s' e=>(∃ l,s'.loc=loc++l)∧∃ v,e.val?=some v∧I (setL L i) (setV V i v) s'.H s'.O) 0 ops)
 (fin:∀ (L:Nat→Bool) (V:Nat→Value) (H' O':PH),I L V H' O'→(∀ j,j < ops.length→L j=true)→putAll V ops 0 env fun env'=>KK .normal ⟨env',loc,H',O'⟩) :
 W P r (.region id ⟨ops⟩ true) ⟨env,loc,H,O⟩ KK:=
 W_freeN hΓ hm n hc hn I h0 (fun i o ho=>by have:=allOps_at _ _ step i o ho;rwa [Nat.zero_add] at this) fin
theorem W_hide {P : Program} {r:Option Nat} {c:Code} {s:S} {KK:Exit→S→Prop} (h:∀ K1:Exit→S→Prop,(∀ e s',KK e s'=K1 e s')→W P r c s K1):W P r c s KK:=h KK fun _ _=>rfl
theorem as_any {sps : List As} {i:Nat} {x:Value} {H:PH} (h:sps.getD i .any=.any):AsS sps i x H:=by
 unfold AsS
 rw[h]
 exact trivial
theorem OwnS.delIns {O : PH} {sz:Nat} {t:TypeId} {v:Value} {xs:List (List Value)} {b:Nat} {o:Obj} (h:OwnS O sz t v xs) (hb:O b=none):OwnS (del (ins O b o) b) sz t v xs:=by
 refine OwnS.keep h fun n cs hn=>?_
 have e:n ≠ b:=fun e=>by rw[e,hb] at hn;cases hn
 unfold del
 rw[if_neg e]
 exact (ins_ne _ _ e).trans hn
def OpsT (H O : PH) (v:Value) (n:Nat):Prop:=∃ vs ms,OwnS O 1 23 v (vs.map fun u=>[u])∧OpsV H vs ms∧ms.length=n
theorem OpsT.up {H H' O : PH} {v:Value} {n:Nat} (h:OpsT H O v n) (hs:Sub H H'):OpsT H' O v n:=by
 obtain⟨vs,ms,h1,h2,h3⟩:=h
 exact⟨vs,ms,h1,h2.up hs,h3⟩
theorem OpsT.sl {H O : PH} {v:Value} {n:Nat} (h:OpsT H O v n) (h0:0 < n):∃ b cap,v=.slice (some ⟨b,0,none⟩) n cap∧(Dis H O→∃ ms,ms.length=n∧MatsH (un H O) v ms∧∀ m∈ms,sqM m):=by
 obtain⟨vs,ms,h1,h2,h3⟩:=h
 rcases h1.2 with⟨_,e⟩ | ⟨b,cap,sp,e,hO,hcap,hsp⟩
 ·have e:vs=[]:=by simpa using e
  have:=h2.len
  rw[e] at this
  simp at this
  omega
 refine⟨b,cap,by rw[e,List.length_map,h2.len,h3],fun hd=>⟨ms,h3,?_,h2.sq⟩⟩
 obtain⟨_,_,_,h⟩:=h2.mats h1 hd (by omega)
 exact h
theorem shl2 : ∀ i:Nat,i < 3→IntKind.i64.wrap (2*2 ^ min ((i:Int)).toNat IntKind.i64.bits)=((2*2 ^ i:Nat):Int):=by decide +kernel
def nI (a b c d k : Int):P4 × Int:=(⟨a,b,c,d⟩,k)
def mD1 : Mx:=[[nu 1 0]]
def mD2 : Mx:=[[nu 1 2,nI 0 0 1 0 2],[nI 0 0 (-1) 0 2,nu 1 2]]
def mD3 : Mx:=[[nu 1 2,nI 0 1 0 0 3],[nI 0 0 0 (-1) 3,nu 1 2]]
theorem sqD1 : sqM mD1:=sqM_of (by decide)
theorem sqD2 : sqM mD2:=sqM_of (by decide)
theorem sqD3 : sqM mD3:=sqM_of (by decide)
theorem x_diag0 : diagR (fun p=>[nu 1 0].getD p (P4.zero,0)) [nu 1 0].length [nu 1 0].length=mD1:=by decide
theorem opsv3 {H : PH} {a b c:Value} (h1:MatH H a mD1) (h2:MatH H b mD2) (h3:MatH H c mD3):OpsV H [a,b,c] [mD1,mD2,mD3]:=(((OpsV.nil H).snoc h1 sqD1).snoc h2 sqD2).snoc h3 sqD3
theorem OwnS.atR {O : PH} {r:Value} {us:List Value} {m:Mx} (ho:OwnS O 1 22 r (us.map fun u=>[u])) (hr:RowsS O us m) (h0:0 < m.length):∃ b cap,r=.slice (some ⟨b,0,none⟩) m.length cap∧∀ (i:Nat) (u:Value),us[i]?=some u→∀ H,Rd H O ⟨b,0+i*1,none⟩ 1 [u]:=by
 rcases id ho.2 with⟨_,e⟩ | ⟨b,cap,sp,e,hO,hcap,hsp⟩
 ·have e:us=[]:=by simpa using e
  have:=hr.len
  rw[e] at this
  simp at this
  omega
 refine⟨b,cap,by rw[e,List.length_map,hr.len],fun i u hu H=>?_⟩
 obtain⟨hi,rfl⟩:=List.getElem?_eq_some_iff.1 hu
 rw[e] at ho
 obtain⟨_,b',e',_,hrd⟩:=OwnS.at1 (H:=H) ho hi
 cases e'
 exact hrd
def gt4 (H : PH) (x:Value):Prop:=∃ g w,x=gv g w∧IntsC H w g.ws
theorem gt4.up {H H' : PH} {x:Value} (h:gt4 H x) (hs:Sub H H'):gt4 H' x:=by
 obtain⟨g,w,e,h⟩:=h
 exact⟨g,w,e,h.up hs⟩
def sl0 (H : PH) (x:Value):Prop:=∃ b,x=sl b 1∧H b=some (.cells ⟨[.int .i64 0]⟩ 3 (0,0))
theorem sl0.up {H H' : PH} {x:Value} (h:sl0 H x) (hs:Sub H H'):sl0 H' x:=by
 obtain⟨b,e,h⟩:=h
 exact⟨b,e,hs _ _ h⟩
def isI (x : Value):Prop:=∃ y,x=.int .i64 y
def G5 (H : PH) (x:Value):Prop:=∃ b gs,x=sl b 5∧gs.length=5∧GatesH H x gs∧GatesH H (.slice (some ⟨b,0,none⟩) 1 5) (gs.take 1)
theorem G5.up {H H' : PH} {x:Value} (h:G5 H x) (hs:Sub H H'):G5 H' x:=by
 obtain⟨b,gs,e,h1,h2,h3⟩:=h
 exact⟨b,gs,e,h1,h2.up hs,h3.up hs⟩
theorem G5_of {H : PH} {b:Nat} {g1 g2 g3 g4 g5:Gt} {c1 c2 c3 c4 c5:List Value} (hb:H b=some (.cells ⟨[c1,c2,c3,c4,c5].flatten⟩ 42 (0,0))) (h1:GateC H g1 c1) (h2:GateC H g2 c2) (h3:GateC H g3 c3) (h4:GateC H g4 c4) (h5:GateC H g5 c5):G5 H (sl b 5):=by
 refine⟨b,[g1,g2,g3,g4,g5],rfl,rfl,gates_of [c1,c2,c3,c4,c5] [] (by simpa using hb) rfl rfl fun i g c hg hc=>?_,gates_of [c1] [c2,c3,c4,c5].flatten (by simpa using hb) rfl rfl fun i g c hg hc=>?_⟩
 ·match i with
  | 0=>cases hg;cases hc;exact h1
  | 1=>cases hg;cases hc;exact h2
  | 2=>cases hg;cases hc;exact h3
  | 3=>cases hg;cases hc;exact h4
  | 4=>cases hg;cases hc;exact h5
 ·match i with
  | 0=>cases hg;cases hc;exact h1
def S27 (d : Value):Nat→Value→PH→Prop
 | 0,x,_=>x=d
 | 1,x,_=>∃ n:Nat,x=.int .i64 n
 | 2,x,_=>isI x
 | 3,x,H=>sl0 H x
 | 4,x,H=>gt4 H x
 | 5,x,H=>sl0 H x
 | 6,x,_=>isI x
 | 7,x,_=>isI x
 | 8,x,H=>gt4 H x
 | 9,x,H=>sl0 H x
 | 10,x,_=>isI x
 | 11,x,_=>isI x
 | 12,x,_=>isI x
 | 13,x,H=>gt4 H x
 | 14,x,H=>sl0 H x
 | 15,x,H=>gt4 H x
 | 16,x,H=>gt4 H x
 | 17,x,H=>G5 H x
 | 18,x,H=>∃ y g,x=.agg ⟨[.int .i64 y,.int .i64 2,g]⟩∧G5 H g
 | _,_,_=>True
theorem S27.up {d : Value} {i:Nat} {x:Value} {H H':PH} (h:S27 d i x H) (hs:Sub H H'):S27 d i x H':=by
 unfold S27 at *
 split at h
 all_goals first
  | exact h
  | exact sl0.up h hs
  | exact gt4.up h hs
  | exact G5.up h hs
  | (obtain⟨y,g,e,h⟩:=h;exact⟨y,g,e,G5.up h hs⟩)
def T27 (x : Value) (_ O:PH):Prop:=∃ b,x=.pointer (some ⟨b,0,none⟩)∧O b=some (.cells ⟨[.int .i64 0,.int .i64 0,.slice none 0 0]⟩ 56 (0,0))
def U27 (x : Value) (H O:PH):Prop:=∃ b y g,x=.pointer (some ⟨b,0,none⟩)∧O b=some (.cells ⟨[.int .i64 y,.int .i64 2,g]⟩ 56 (0,0))∧G5 H g
theorem U27.up {x : Value} {H H' O:PH} (h:U27 x H O) (s:Sub H H'):U27 x H' O:=by
 obtain⟨b,y,g,e1,e2,e3⟩:=h
 exact⟨b,y,g,e1,e2,e3.up s⟩
theorem U27.elim {x : Value} {H O:PH} {C:Prop} (h:U27 x H O) (k:∀ (b:Nat) (y:Int) (b17:Nat) (gs:List Gt),x=.pointer (some ⟨b,0,none⟩)→O b=some (.cells ⟨[.int .i64 y,.int .i64 2,.slice (some ⟨b17,0,none⟩) 5 5]⟩ 56 (0,0))→gs.length=5→GatesH H (.slice (some ⟨b17,0,none⟩) 5 5) gs→GatesH H (.slice (some ⟨b17,0,none⟩) 1 5) (gs.take 1)→C):C:=by
 obtain⟨b,y,g,e1,e2,b17,gs,rfl,h1,h2,h3⟩:=h
 exact k b y b17 gs e1 e2 h1 h2 h3
theorem c15k {m : Mx} {H O:PH} {v:Value} {K:Value→PH→PH→Prop} (hv:MatH H v m) (hm:sqM m) (k:∀ (b cap:Nat) (us:List Value) (H' O':PH),Sub H H'→OwnS O' 1 22 (.slice (some ⟨b,0,none⟩) m.length cap) (us.map fun u=>[u])→RowsS O' us m→(∀ (i:Nat) (u:Value),us[i]?=some u→∀ H,Rd H O' ⟨b,0+i*1,none⟩ 1 [u])→K (.slice (some ⟨b,0,none⟩) m.length cap) H' O'):Cl Tryz.prog 11 [v] H O K:=
 (c15x m H O v hv hm).mono fun r H' O' s hq=>by
  obtain⟨_,us,h1,h2⟩:=hq
  obtain⟨b,cap,rfl,h3⟩:=OwnS.atR h1 h2 hm.1
  exact k b cap us H' O' s h1 h2 h3
theorem setNk {C : Prop} {O:PH} {v:Value} {us:List Value} {m:Mx} (ho:OwnS O 1 22 v (us.map fun u=>[u])) (h:RowsS O us m) {i k:Nat} (hi:i < m.length) (hk:k < m[i].length) (x:P4 × Int)
 (f:∀ (b c:Nat) (cs:List Value),us[i]?=some (.slice (some ⟨b,0,none⟩) m[i].length c)→O b=some (.cells ⟨cs⟩ 25 (0,0))→0+k*5+5≤cs.length →
  OwnS (ins O b (.cells ⟨cs.take (0+k*5)++cellsOf x++cs.drop (0+k*5+5)⟩ 25 (0,0))) 1 22 v (us.map fun u=>[u])→RowsS (ins O b (.cells ⟨cs.take (0+k*5)++cellsOf x++cs.drop (0+k*5+5)⟩ 25 (0,0))) us (m.set i (m[i].set k x))→C):C:=by
 obtain⟨b,c,cs,h1,h2,h3,h4⟩:=h.setN hi hk x
 exact f b c cs h1 h2 h3 (OwnS.other ho h2 (by decide)) h4
theorem W_pubRow {r : Option Nat} {c:Code} {env:List En} {loc:List (Option B)} {H O:PH} {K:Exit→S→Prop} {v:Value} {us:List Value} {m:Mx} (ho:OwnS O 1 22 v (us.map fun u=>[u])) (hr:RowsS O us m) (k:∀ H',Sub H H'→MatH H' v m→W Tryz.prog r c ⟨env,loc,H',emp⟩ K):W Tryz.prog r c ⟨env,loc,H,O⟩ K:=
 W_pre fun hd=>⟨_,_,.all hd,k _ (un_left _ _) (RowsS.share hd ho hr)⟩
theorem Cl.pubRow {f : FuncId} {args:List Value} {H O:PH} {Q:Value→PH→PH→Prop} {v:Value} {us:List Value} {m:Mx} (he:Ent Tryz.prog f) (ho:OwnS O 1 22 v (us.map fun u=>[u])) (hr:RowsS O us m) (k:∀ H',Sub H H'→MatH H' v m→Cl Tryz.prog f args H' emp Q):Cl Tryz.prog f args H O Q:=
 Cl.pubAll he fun hd=>k _ (un_left _ _) (RowsS.share hd ho hr)
theorem rowk {C : Prop} {H:PH} {b off n cap:Nat} {m:Mx} (h:MatH H (.slice (some ⟨b,off,none⟩) n cap) m) (hq:sqM m) {i:Nat} (hi:i < m.length) (f:∀ (rb:Option Addr) (rc:Nat) (l:Vec),l.length=m.length→(∀ H' O,Sub H H'→Rd H' O ⟨b,off+i*1,none⟩ 1 [.slice rb l.length rc])→NumH H (.slice rb l.length rc) l→C):C:=by
 obtain⟨_,_,rb,rc,e,h1,h2⟩:=MatH.at h hi
 cases e
 exact f rb rc _ (hq.row hi) h1 h2
theorem W_O {P : Program} {r:Option Nat} {c:Code} {env:List En} {loc:List (Option B)} {H O O':PH} {K:Exit→S→Prop} (h:O=O') (hW:W P r c ⟨env,loc,H,O'⟩ K):W P r c ⟨env,loc,H,O⟩ K:=h ▸ hW
def isJ (x : Value):Prop:=∃ j:Nat,x=.int .i64 (j:Int)∧j < 3
theorem tmod3 (k : Nat):isJ (.int .i64 ((k:Int).tmod 3)):=⟨k % 3,by rw[Int.tmod_eq_emod_of_nonneg (by omega)];rfl,Nat.mod_lt _ (by decide)⟩
def t3 (H : PH) (b:Nat):Prop:=∃ y1 y2 y3,H b=some (.cells ⟨[.int .i64 y1,.int .i64 y2,.int .i64 y3]⟩ 3 (0,0))
def sl3 (H : PH) (x:Value):Prop:=∃ b,x=sl b 3∧t3 H b
def pt3 (H : PH) (x:Value):Prop:=∃ b j,x=.pointer (some ⟨b,j,none⟩)∧j < 3∧t3 H b
def G2 (H : PH) (x:Value):Prop:=∃ b g1 g2 c1 c2,x=sl b 2∧H b=some (.cells ⟨[c1,c2].flatten⟩ 42 (0,0))∧GateC H g1 c1∧GateC H g2 c2
theorem t3.up {H H' : PH} {b:Nat} (h:t3 H b) (hs:Sub H H'):t3 H' b:=by
 obtain⟨y1,y2,y3,h⟩:=h
 exact⟨y1,y2,y3,hs _ _ h⟩
theorem sl3.up {H H' : PH} {x:Value} (h:sl3 H x) (hs:Sub H H'):sl3 H' x:=by
 obtain⟨b,e,h⟩:=h
 exact⟨b,e,h.up hs⟩
theorem pt3.up {H H' : PH} {x:Value} (h:pt3 H x) (hs:Sub H H'):pt3 H' x:=by
 obtain⟨b,j,e,hj,h⟩:=h
 exact⟨b,j,e,hj,h.up hs⟩
theorem G2.up {H H' : PH} {x:Value} (h:G2 H x) (hs:Sub H H'):G2 H' x:=by
 obtain⟨b,g1,g2,c1,c2,e,h,h1,h2⟩:=h
 exact⟨b,g1,g2,c1,c2,e,hs _ _ h,h1.up hs,h2.up hs⟩
def GB (b7 n : Nat) (bits:Int) (v:Value) (gs:List Gt) (cs:List (List Value)) (H O:PH):Prop:=O b7=some (.cells ⟨[.int .i64 1,.int .i64 bits,v]⟩ 56 (0,0))∧OwnS O 4 42 v cs∧GatesC H gs cs∧gs.length=2*n
theorem GB.up {b7 n : Nat} {bits:Int} {v:Value} {gs:List Gt} {cs:List (List Value)} {H H' O O':PH} (h:GB b7 n bits v gs cs H O) (hs:Sub H H') (ho:Sub O O'):GB b7 n bits v gs cs H' O':=⟨ho _ _ h.1,OwnS.upS h.2.1 ho,h.2.2.1.up hs,h.2.2.2⟩
theorem GB.gates {b7 n : Nat} {bits:Int} {v:Value} {gs:List Gt} {cs:List (List Value)} {H O:PH} (h:GB b7 n bits v gs cs H O) (hd:Dis H O):GatesH (un H O) v gs:=(h.2.2.1.up (un_left H O)).gates (OwnS.recsU h.2.1 hd)
theorem GB.bits {b7 n : Nat} {bits bits':Int} {v:Value} {gs:List Gt} {cs:List (List Value)} {H O:PH} (h:GB b7 n bits v gs cs H O):GB b7 n bits' v gs cs H (ins O b7 (.cells ⟨[.int .i64 1,.int .i64 bits',v]⟩ 56 (0,0))):=⟨ins_same _ _ _,OwnS.other h.2.1 h.1 (by decide),h.2.2⟩
theorem e5o {b7 n : Nat} {bits:Int} {v u:Value} {gs:List Gt} {cs:List (List Value)} {m:Mx} {H O:PH} (hn:n≤100) (hm:m.length < 9223372036854775808) (hG:GlobH H) (hg:GB b7 n bits v gs cs H O) (hu:MatH H u m):Cl Tryz.prog 5 [.agg ⟨[.int .i64 1,.int .i64 bits,v]⟩,u] H O fun r _ O'=>r=.bool true∧Sub O O':=
 (Cl.share' (e5 ⟨1,0,[]⟩ m (by simp) hm H _ u hG ⟨_,rfl,gates_nil H⟩ hu).ent fun hd=>
  e5 ⟨1,bits,gs⟩ m (by have:=hg.2.2.2;dsimp only;omega) hm (un H O) _ u (GlobH.up hG (un_left H O)) ⟨_,rfl,hg.gates hd⟩ (MatH.up hu (un_left H O))).mono fun r H' O' _ h=>⟨h.2,h.1⟩
def SMq (b7 k : Nat) (bits:Int) (gs:Value) (gl:List Gt) (cs:List (List Value)):Nat→Value→PH→PH→Prop
 | 0,x,_,_=>x=.pointer (some ⟨b7,2,none⟩)
 | 1,x,_,_=>x=gs
 | 2,x,H,_=>sl3 H x
 | 3,x,_,_=>x=.int .i64 (k:Int)
 | 4,x,_,_=>isJ x
 | 5,x,H,_=>pt3 H x
 | 6,x,_,_=>isI x
 | 7,x,H,_=>sl0 H x
 | 8,x,H,_=>gt4 H x
 | 9,x,H,_=>sl0 H x
 | 10,x,_,_=>x=.int .i64 (k:Int)
 | 11,x,_,_=>isI x
 | 12,x,_,_=>isI x
 | 13,x,_,_=>isI x
 | 14,x,H,_=>gt4 H x
 | 15,x,H,_=>G2 H x
 | 16,x,H,O=>∃ gl' cs',gl'.length=2∧OwnS O 4 42 x (cs++cs')∧GatesC H (gl++gl') (cs++cs')
 | 17,x,_,_=>x=.pointer (some ⟨b7,2,none⟩)
 | 18,x,H,O=>∃ v gl' cs',gl'.length=2∧O b7=some (.cells ⟨[.int .i64 1,.int .i64 bits,v]⟩ 56 (0,0))∧OwnS O 4 42 v (cs++cs')∧GatesC H (gl++gl') (cs++cs')
 | _,_,_,_=>True
theorem SMq.up {b7 k : Nat} {bits:Int} {gs:Value} {gl:List Gt} {cs:List (List Value)} {i:Nat} {x:Value} {H H' O:PH} (h:SMq b7 k bits gs gl cs i x H O) (hs:Sub H H'):SMq b7 k bits gs gl cs i x H' O:=by
 unfold SMq at *
 split at h
 all_goals first
  | exact h
  | exact sl0.up h hs
  | exact sl3.up h hs
  | exact pt3.up h hs
  | exact gt4.up h hs
  | exact G2.up h hs
  | (obtain⟨gl',cs',h1,h2,h3⟩:=h;exact⟨gl',cs',h1,h2,h3.up hs⟩)
  | (obtain⟨v,gl',cs',h1,h2,h3,h4⟩:=h;exact⟨v,gl',cs',h1,h2,h3,h4.up hs⟩)
theorem SMq.o {b7 k : Nat} {bits:Int} {gs:Value} {gl:List Gt} {cs:List (List Value)} {i:Nat} {x:Value} {H O O':PH} (h:SMq b7 k bits gs gl cs i x H O) (h7:i ≠ 16) (h9:i ≠ 18):SMq b7 k bits gs gl cs i x H O':=by
 unfold SMq at *
 split at h
 all_goals first
  | exact h
  | exact absurd rfl h7
  | exact absurd rfl h9
structure SM (H0 : PH) (b7 k:Nat) (bits:Int) (gs:Value) (gl:List Gt) (cs:List (List Value)) (L:Nat→Bool) (V:Nat→Value) (H O:PH):Prop where
 sub:Sub H0 H
 old:L 18=false→O b7=some (.cells ⟨[.int .i64 1,.int .i64 bits,gs]⟩ 56 (0,0))
 own:L 16=false→OwnS O 4 42 gs cs
 sp:∀ i,L i=true→SMq b7 k bits gs gl cs i (V i) H O
 c30:L 16=true→L 1=true
 c32:L 18=true→L 16=true
theorem SM.step {H0 : PH} {b7 k:Nat} {bits:Int} {gs:Value} {gl:List Gt} {cs:List (List Value)} {L:Nat→Bool} {V:Nat→Value} {H O H':PH} (h:SM H0 b7 k bits gs gl cs L V H O) {i:Nat} {v:Value} (hs:Sub H H') (h9:i ≠ 18) (h7:i ≠ 16) (hv:SMq b7 k bits gs gl cs i v H' O):SM H0 b7 k bits gs gl cs (setL L i) (setV V i v) H' O:=by
 refine⟨h.sub.trans hs,fun h'=>h.old (by rwa [setL_nq h9] at h'),fun h'=>h.own (by rwa [setL_nq h7] at h'),fun k hk=>?_,fun h'=>?_,fun h'=>?_⟩
 ·by_cases e:i=k
  ·subst e
   rw[setV_aq]
   exact hv
  ·rw[setV_nq e]
   rw[setL_nq e] at hk
   exact (h.sp k hk).up hs
 ·rw[setL_nq h7] at h'
  simp only[setL]
  rw[h.c30 h',Bool.or_true]
 ·rw[setL_nq h9] at h'
  simp only[setL]
  rw[h.c32 h',Bool.or_true]
theorem SM.elim {C : Prop} {b7 k:Nat} {bits:Int} {gs:Value} {gl:List Gt} {cs:List (List Value)} {x:Value} {H O:PH} (h:SMq b7 k bits gs gl cs 18 x H O) (f:∀ v gl' cs',gl'.length=2→O b7=some (.cells ⟨[.int .i64 1,.int .i64 bits,v]⟩ 56 (0,0))→OwnS O 4 42 v (cs++cs')→GatesC H (gl++gl') (cs++cs')→C):C:=by
 obtain⟨v,gl',cs',h1,h2,h3,h4⟩:=h
 exact f v gl' cs' h1 h2 h3 h4
theorem quo18 : ∀ n:Nat,n < 19→IntKind.i64.wrap ((n:Int) - IntKind.i64.wrap ((n:Int).tdiv 18))=((n - n / 18:Nat):Int):=by decide +kernel
theorem quo72 : ∀ n:Nat,n < 19→IntKind.i64.wrap (IntKind.i64.wrap (4*(n:Int)) - IntKind.i64.wrap ((IntKind.i64.wrap (4*(n:Int))).tdiv 18))=((4*n - 4*n / 18:Nat):Int):=by decide +kernel
def spD2 : List As:=[.eq (.agg ⟨[.int .i64 1,.int .i64 0,.int .i64 0,.int .i64 0,.int .i64 0]⟩),.num [nu 1 0],.mat mD1,.eq (.agg ⟨[.int .i64 1,.int .i64 0,.int .i64 0,.int .i64 0,.int .i64 2]⟩),.eq (.agg ⟨[.int .i64 0,.int .i64 0,.int .i64 1,.int .i64 0,.int .i64 2]⟩),.num [nu 1 2,nI 0 0 1 0 2],.eq (.agg ⟨[.int .i64 0,.int .i64 0,.int .i64 (-1),.int .i64 0,.int .i64 2]⟩),.eq (.agg ⟨[.int .i64 1,.int .i64 0,.int .i64 0,.int .i64 0,.int .i64 2]⟩),.num [nI 0 0 (-1) 0 2,nu 1 2],.mat mD2,.eq (.agg ⟨[.int .i64 1,.int .i64 0,.int .i64 0,.int .i64 0,.int .i64 2]⟩),.eq (.agg ⟨[.int .i64 0,.int .i64 1,.int .i64 0,.int .i64 0,.int .i64 3]⟩),.num [nu 1 2,nI 0 1 0 0 3],.eq (.agg ⟨[.int .i64 0,.int .i64 0,.int .i64 0,.int .i64 (-1),.int .i64 3]⟩),.eq (.agg ⟨[.int .i64 1,.int .i64 0,.int .i64 0,.int .i64 0,.int .i64 2]⟩),.num [nI 0 0 0 (-1) 3,nu 1 2],.mat mD3,.any,.any]
set_option maxHeartbeats 32000000 in
theorem e7 (H : PH) (hG:GlobH H):Cl Tryz.prog 7 [] H emp fun r _ _=>r=.bool true:=by
 refine Cl_of (pol:=polDs) Γok Tryz.func7 (by kernel_rfl) rfl ?_
 conv=>whnf
 intro bi
 conv=>whnf
 intro bw
 conv=>whnf
 refine W_hide fun KR hKR=>?_
 refine W_freeN (pol:=polDs) Γok mixes 425 (by kernel_rfl) rfl (RI H emp (AsS spD2) 17 (fun x H O=>OpsT H O x 3) (fun _ y H O=>OpsT H O y 3)) ⟨Sub.refl _,fun _=>rfl,fun i h=>(by cases h),fun h=>(by cases h),fun h=>(by cases h),fun h=>(by cases h)⟩ ?_ ?_
 ·intro i op ho' L V H' O' hI hLi hsee
  have hi:i < 19:=(List.getElem?_eq_some_iff.1 ho').1
  have get:∀ j,seesB _ op j=true→(AsS spD2) j (V j) H':=fun j h=>hI.sp j (hsee j h)
  have stp:=fun {H'':PH} {v:Value} (hs:Sub H' H'') (h1:i ≠ 17) (h2:i ≠ 17+1) hv=>RI.step (S:=AsS spD2) (T:=(fun x H O=>OpsT H O x 3)) (T2:=(fun _ y H O=>OpsT H O y 3)) (i:=i) (v:=v) (fun h s=>AsS.up h s) (fun h s=>OpsT.up h s) (fun h s=>OpsT.up h s) hI hs h1 h2 hv
  rcases (show i=0∨i=1∨i=2∨i=3∨i=4∨i=5∨i=6∨i=7∨i=8∨i=9∨i=10∨i=11∨i=12∨i=13∨i=14∨i=15∨i=16∨i=17∨i=18 by omega) with rfl | rfl | rfl | rfl | rfl | rfl | rfl | rfl | rfl | rfl | rfl | rfl | rfl | rfl | rfl | rfl | rfl | rfl | rfl
  ·cases ho'
   conv=>whnf
   exact⟨⟨_,rfl⟩,_,rfl,stp (Sub.refl _) (by decide) (by decide) rfl⟩
  ·cases ho'
   have h0:V 0=(.agg ⟨[.int .i64 1,.int .i64 0,.int .i64 0,.int .i64 0,.int .i64 0]⟩):=get 0 (by kernel_rfl)
   conv=>whnf
   rw[h0]
   conv=>whnf
   intro b hb hO
   conv=>whnf
   exact⟨⟨_,rfl⟩,_,rfl,stp (sub_ins _ _ hb) (by decide) (by decide) ⟨⟨b,rfl⟩,num_sl (l:=[nu 1 0]) (ins_same _ _ _)⟩⟩
  ·cases ho'
   obtain⟨_,h1⟩:(∃ b,V 1=.slice (some ⟨b,0,none⟩) 1 1)∧NumH H' (V 1) [nu 1 0]:=get 1 (by kernel_rfl)
   conv=>whnf
   refine (e50h [nu 1 0] mD1 x_diag0 (by decide) _ _ h1).use fun v5 H5 s5 hv5=>?_
   obtain⟨_,hv5⟩:=hv5
   conv=>whnf
   exact⟨⟨_,rfl⟩,_,rfl,stp s5 (by decide) (by decide) hv5⟩
  ·cases ho'
   conv=>whnf
   refine⟨_,Rd_up hG.1 hI.sub,?_⟩
   conv=>whnf
   exact⟨⟨_,rfl⟩,_,rfl,stp (Sub.refl _) (by decide) (by decide) rfl⟩
  ·cases ho'
   conv=>whnf
   exact⟨⟨_,rfl⟩,_,rfl,stp (Sub.refl _) (by decide) (by decide) rfl⟩
  ·cases ho'
   have h3:V 3=(.agg ⟨[.int .i64 1,.int .i64 0,.int .i64 0,.int .i64 0,.int .i64 2]⟩):=get 3 (by kernel_rfl)
   have h4:V 4=(.agg ⟨[.int .i64 0,.int .i64 0,.int .i64 1,.int .i64 0,.int .i64 2]⟩):=get 4 (by kernel_rfl)
   conv=>whnf
   rw[h3]
   conv=>whnf
   rw[h4]
   conv=>whnf
   intro b hb hO
   conv=>whnf
   exact⟨⟨_,rfl⟩,_,rfl,stp (sub_ins _ _ hb) (by decide) (by decide) ⟨⟨b,rfl⟩,num_sl (l:=[nu 1 2,nI 0 0 1 0 2]) (ins_same _ _ _)⟩⟩
  ·cases ho'
   conv=>whnf
   exact⟨⟨_,rfl⟩,_,rfl,stp (Sub.refl _) (by decide) (by decide) rfl⟩
  ·cases ho'
   conv=>whnf
   refine⟨_,Rd_up hG.1 hI.sub,?_⟩
   conv=>whnf
   exact⟨⟨_,rfl⟩,_,rfl,stp (Sub.refl _) (by decide) (by decide) rfl⟩
  ·cases ho'
   have h6:V 6=(.agg ⟨[.int .i64 0,.int .i64 0,.int .i64 (-1),.int .i64 0,.int .i64 2]⟩):=get 6 (by kernel_rfl)
   have h7:V 7=(.agg ⟨[.int .i64 1,.int .i64 0,.int .i64 0,.int .i64 0,.int .i64 2]⟩):=get 7 (by kernel_rfl)
   conv=>whnf
   rw[h6]
   conv=>whnf
   rw[h7]
   conv=>whnf
   intro b hb hO
   conv=>whnf
   exact⟨⟨_,rfl⟩,_,rfl,stp (sub_ins _ _ hb) (by decide) (by decide) ⟨⟨b,rfl⟩,num_sl (l:=[nI 0 0 (-1) 0 2,nu 1 2]) (ins_same _ _ _)⟩⟩
  ·cases ho'
   obtain⟨⟨x1,h5⟩,n5⟩:(∃ b,V 5=.slice (some ⟨b,0,none⟩) 2 2)∧NumH H' (V 5) [nu 1 2,nI 0 0 1 0 2]:=get 5 (by kernel_rfl)
   obtain⟨⟨x2,h8⟩,n8⟩:(∃ b,V 8=.slice (some ⟨b,0,none⟩) 2 2)∧NumH H' (V 8) [nI 0 0 (-1) 0 2,nu 1 2]:=get 8 (by kernel_rfl)
   rw[h5] at n5
   rw[h8] at n8
   conv=>whnf
   rw[h5]
   conv=>whnf
   rw[h8]
   conv=>whnf
   intro b hb hO
   conv=>whnf
   exact⟨⟨_,rfl⟩,_,rfl,stp (sub_ins _ _ hb) (by decide) (by decide) (mat2 (ins_same _ _ _) (n5.up (sub_ins _ _ hb)) (n8.up (sub_ins _ _ hb)))⟩
  ·cases ho'
   conv=>whnf
   refine⟨_,Rd_up hG.1 hI.sub,?_⟩
   conv=>whnf
   exact⟨⟨_,rfl⟩,_,rfl,stp (Sub.refl _) (by decide) (by decide) rfl⟩
  ·cases ho'
   conv=>whnf
   exact⟨⟨_,rfl⟩,_,rfl,stp (Sub.refl _) (by decide) (by decide) rfl⟩
  ·cases ho'
   have h10:V 10=(.agg ⟨[.int .i64 1,.int .i64 0,.int .i64 0,.int .i64 0,.int .i64 2]⟩):=get 10 (by kernel_rfl)
   have h11:V 11=(.agg ⟨[.int .i64 0,.int .i64 1,.int .i64 0,.int .i64 0,.int .i64 3]⟩):=get 11 (by kernel_rfl)
   conv=>whnf
   rw[h10]
   conv=>whnf
   rw[h11]
   conv=>whnf
   intro b hb hO
   conv=>whnf
   exact⟨⟨_,rfl⟩,_,rfl,stp (sub_ins _ _ hb) (by decide) (by decide) ⟨⟨b,rfl⟩,num_sl (l:=[nu 1 2,nI 0 1 0 0 3]) (ins_same _ _ _)⟩⟩
  ·cases ho'
   conv=>whnf
   exact⟨⟨_,rfl⟩,_,rfl,stp (Sub.refl _) (by decide) (by decide) rfl⟩
  ·cases ho'
   conv=>whnf
   refine⟨_,Rd_up hG.1 hI.sub,?_⟩
   conv=>whnf
   exact⟨⟨_,rfl⟩,_,rfl,stp (Sub.refl _) (by decide) (by decide) rfl⟩
  ·cases ho'
   have h13:V 13=(.agg ⟨[.int .i64 0,.int .i64 0,.int .i64 0,.int .i64 (-1),.int .i64 3]⟩):=get 13 (by kernel_rfl)
   have h14:V 14=(.agg ⟨[.int .i64 1,.int .i64 0,.int .i64 0,.int .i64 0,.int .i64 2]⟩):=get 14 (by kernel_rfl)
   conv=>whnf
   rw[h13]
   conv=>whnf
   rw[h14]
   conv=>whnf
   intro b hb hO
   conv=>whnf
   exact⟨⟨_,rfl⟩,_,rfl,stp (sub_ins _ _ hb) (by decide) (by decide) ⟨⟨b,rfl⟩,num_sl (l:=[nI 0 0 0 (-1) 3,nu 1 2]) (ins_same _ _ _)⟩⟩
  ·cases ho'
   obtain⟨⟨x1,h12⟩,n12⟩:(∃ b,V 12=.slice (some ⟨b,0,none⟩) 2 2)∧NumH H' (V 12) [nu 1 2,nI 0 1 0 0 3]:=get 12 (by kernel_rfl)
   obtain⟨⟨x2,h15⟩,n15⟩:(∃ b,V 15=.slice (some ⟨b,0,none⟩) 2 2)∧NumH H' (V 15) [nI 0 0 0 (-1) 3,nu 1 2]:=get 15 (by kernel_rfl)
   rw[h12] at n12
   rw[h15] at n15
   conv=>whnf
   rw[h12]
   conv=>whnf
   rw[h15]
   conv=>whnf
   intro b hb hO
   conv=>whnf
   exact⟨⟨_,rfl⟩,_,rfl,stp (sub_ins _ _ hb) (by decide) (by decide) (mat2 (ins_same _ _ _) (n12.up (sub_ins _ _ hb)) (n15.up (sub_ins _ _ hb)))⟩
  ·cases ho'
   have h2:MatH H' (V 2) mD1:=get 2 (by kernel_rfl)
   have h9:MatH H' (V 9) mD2:=get 9 (by kernel_rfl)
   have h16:MatH H' (V 16) mD3:=get 16 (by kernel_rfl)
   obtain⟨qa,qb,q2⟩:=MatH.sl h2
   obtain⟨ra,rb,q9⟩:=MatH.sl h9
   obtain⟨ta,tb,q16⟩:=MatH.sl h16
   conv=>whnf
   rw[q2]
   conv=>whnf
   rw[q9]
   conv=>whnf
   rw[q16]
   conv=>whnf
   intro b hb hO
   conv=>whnf
   rw[← q2,← q9,← q16]
   exact⟨⟨_,rfl⟩,_,rfl,RI.make (S:=AsS spD2) (fun h s=>AsS.up h s) hI hLi (Sub.refl _) (as_any rfl) ⟨[V 2,V 9,V 16],_,⟨(fun x hx=>by obtain⟨y,_,rfl⟩:=List.mem_map.1 hx;rfl),.inr ⟨b,3,[],rfl,ins_same _ _ _,by simp,rfl⟩⟩,opsv3 h2 h9 h16,rfl⟩⟩
  ·cases ho'
   have hL17:L 17=true:=hsee 17 (by kernel_rfl)
   conv=>whnf
   exact⟨⟨_,rfl⟩,_,rfl,RI.done (S:=AsS spD2) (fun h s=>AsS.up h s) hI hL17 (Sub.refl _) (as_any rfl) (hI.new hL17 hLi)⟩
 ·intro L V H' O' hI hall
  have hT:=hI.nxt (hall 18 (by decide))
  have hs2:=hI.sub
  clear hI hall
  conv=>whnf
  rw[← hKR]
  clear hKR KR
  have hG0:=hG
  replace hG:=hG.up hs2
  conv=>whnf
  refine W_loop (pol:=polDs) Γok (Nat × PH × PH × Value) (fun z=>z.1≤3∧Sub H z.2.1∧OpsT z.2.1 z.2.2.1 z.2.2.2 (3+2*z.1)) (fun z=>3 - z.1) (fun z=>[(50,.v (.int .i64 z.1)),(3,.v z.2.2.2)]) (fun _=>[]) (fun z=>z.2.1) (fun z=>z.2.2.1) ⟨(0,H',O',V 18),⟨by simp,hs2,hT⟩,rfl,rfl,?_⟩ ?_
  ·conv=>whnf
   repeat (refine⟨rfl,?_⟩;conv=>whnf)
   exact trivial
  clear hG hT hs2
  rintro ⟨i,H1,O1,v⟩ ⟨h1,hs,hT⟩
  dsimp only at h1 hs hT
  replace hG:=hG0.up hs
  conv=>whnf
  refine if_intro (fun hc=>?_) (fun hc=>?_)
  ·have hi:i < 3:=by
    have:=of_decide_eq_true hc
    omega
   clear hc h1
   conv=>whnf
   rw[show IntKind.i64.wrap (2*2 ^ min (((i,H1,O1,v):Nat × PH × PH × Value).1:Int).toNat IntKind.i64.bits)=((2*2 ^ i:Nat):Int) from shl2 i hi]
   obtain⟨N,hN⟩:∃ N,N=2*2 ^ i:=⟨_,rfl⟩
   rw[← hN]
   have hN8:N≤8∧0 < N:=by
    rcases (show i=0∨i=1∨i=2 by omega) with rfl | rfl | rfl<;>omega
   refine dec_intro (by omega) ?_
   conv=>whnf
   refine dec_intro (by omega) ?_
   conv=>whnf
   refine dec_intro (by omega) ?_
   conv=>whnf
   intro b hb kb
   rw[Int.toNat_natCast,show (List.replicate N _).flatten=cellsN (fillV i N 0) from by rw[fillV_zero];exact zeros_flat N]
   conv=>whnf
   refine W_loop (pol:=polDs) Γok Nat (fun z=>z≤N) (fun z=>N - z) (fun z=>[(58,.v (.int .i64 z))]) (fun _=>[]) (fun _=>H1) (fun z=>PH.ins O1 b (.cells ⟨cellsN (fillV i N z)⟩ 25 (0,0))) ⟨0,by simp,rfl,rfl,?_⟩ ?_
   ·conv=>whnf
    repeat (refine⟨rfl,?_⟩;conv=>whnf)
    exact trivial
   intro k k1
   conv=>whnf
   refine if_intro (fun kc=>?_) (fun kc=>?_)
   ·have ki:k < N:=by
     have:=of_decide_eq_true kc
     omega
    conv=>whnf
    refine dec_intro (by omega) ?_
    conv=>whnf
    refine⟨_,_,ins_same _ _ _,?_,?_⟩
    ·show _≤(cellsN (fillV i N k)).length
     rw[cellsN_length,fillV_len]
     simp only[Int.toNat_natCast,List.length_cons,List.length_nil]
     omega
    rw[ins_ins]
    have hcl:=cellsN_set (fillV i N k) k (⟨(k:Int).tmod 3 - 1,(k:Int).tmod 2,0,0⟩,(i:Int)) (by rw[fillV_len];exact ki)
    rw[fillV_set i N k ki] at hcl
    have hwr:IntKind.i64.wrap ((k:Int).tmod 3 - 1)=(k:Int).tmod 3 - 1:=wrap_id (by rw[Int.tmod_eq_emod_of_nonneg (by omega)];omega) (by rw[Int.tmod_eq_emod_of_nonneg (by omega)];omega)
    rw[← hwr] at hcl
    conv=>whnf
    refine⟨k+1,ki,by omega,?_⟩
    refine⟨rfl,congrArg (fun c=>PH.ins O1 b (.cells ⟨c⟩ 25 (0,0))) hcl.symm,?_⟩
    conv=>whnf
    repeat (refine⟨rfl,?_⟩;conv=>whnf)
    refine⟨by show En.v (.int .i64 (IntKind.i64.wrap (k+1)))=_;rw[wrap_id (by omega) (by omega)];rfl,?_⟩
    conv=>whnf
    repeat (refine⟨rfl,?_⟩;conv=>whnf)
    exact trivial
   have ke:k=N:=by
    have:=of_decide_eq_false kc
    omega
   clear kc k1
   rw[ke]
   clear ke k
   conv=>whnf
   refine Cl.publish b (.cells ⟨cellsN (fillV i N N)⟩ 25 (0,0)) (ins_same _ _ _) ?_
   obtain⟨vs,ms,ho,hv,hn⟩:=hT
   replace ho:=OwnS.delIns (o:=.cells ⟨cellsN (fillV i N N)⟩ 25 (0,0)) ho kb
   have hx:NumH (H1.ins b (.cells ⟨cellsN (fillV i N N)⟩ 25 (0,0))) (.slice (some ⟨b,0,none⟩) N N) (fillV i N N):=num_sl (ins_same _ _ _) (fillV_len i N N).symm
   have s1:=sub_ins H1 (.cells ⟨cellsN (fillV i N N)⟩ 25 (0,0)) hb
   generalize del (PH.ins O1 b (.cells ⟨cellsN (fillV i N N)⟩ 25 (0,0))) b=O2 at ho ⊢
   generalize PH.ins H1 b (.cells ⟨cellsN (fillV i N N)⟩ 25 (0,0))=H2 at hx s1 ⊢
   have hq1:sqM (ofV (fillV i N N)).1:=by rw[hN];exact sqM_of (sq_of i hi)
   refine (e12 (fillV i N N) (by rw[fillV_len];omega) _ _ hx).use fun r H3 s3 hr=>?_
   obtain⟨_,u1,rfl,hu1⟩:=hr
   generalize ofV (fillV i N N)=A1 at hu1 hq1 ⊢
   obtain⟨a1,c1,rfl⟩:=MatH.sl hu1
   conv=>whnf
   have hq2:sqM (mixedI (i:Int)).1:=sqM_of (sq_mix i hi)
   refine (e13 (i:Int) (by omega) _).use fun r H4 s4 hr=>?_
   obtain⟨_,u2,rfl,hu2⟩:=hr
   generalize mixedI (i:Int)=A2 at hu2 hq2 ⊢
   obtain⟨a2,c2,rfl⟩:=MatH.sl hu2
   conv=>whnf
   intro b2 hb2 kb2
   conv=>whnf
   have s5:=sub_ins H4 (.cells ⟨[.slice a1 A1.1.length c1,.slice a2 A2.1.length c2]⟩ 23 (0,0)) hb2
   have t5:=((s1.trans s3).trans s4).trans s5
   refine append_many' (ys:=[[.slice a1 A1.1.length c1],[.slice a2 A2.1.length c2]]) ho rfl (fun y hy=>?_) (fun v hv=>?_) ⟨_,_,rfl,(fun h=>by cases h),fun a ha _=>?_⟩ ?_ fun v' O3 hov _=>?_
   ·simp only[List.mem_cons,List.not_mem_nil,or_false] at hy
    rcases hy with rfl | rfl<;>rfl
   ·simp only[List.flatten_cons,List.flatten_nil,List.cons_append,List.nil_append,List.mem_cons,List.not_mem_nil,or_false] at hv
    rcases hv with rfl | rfl<;>rfl
   ·cases ha
    exact⟨rfl,rfl,_,_,_,.inl (ins_same _ _ _),rfl⟩
   ·have:=hv.len
    simp only[List.length_map,List.length_cons,List.length_nil]
    omega
   conv=>whnf
   have hT2:OpsT (PH.ins H4 b2 (.cells ⟨[.slice a1 A1.1.length c1,.slice a2 A2.1.length c2]⟩ 23 (0,0))) O3 v' (3+2*(i+1)):=⟨vs++[.slice a1 A1.1.length c1]++[.slice a2 A2.1.length c2],ms++[A1.1]++[A2.1],by rw[List.map_append,List.map_append,List.append_assoc];exact hov,((hv.up t5).snoc ((hu1.up s4).up s5) hq1).snoc (hu2.up s5) hq2,by simp only[List.length_append,List.length_cons,List.length_nil];omega⟩
   refine⟨(i+1,_,O3,v'),⟨hi,hs.trans t5,hT2⟩,by dsimp only;omega,?_⟩
   refine⟨rfl,rfl,?_⟩
   conv=>whnf
   repeat (refine⟨rfl,?_⟩;conv=>whnf)
   refine⟨by show En.v (.int .i64 (IntKind.i64.wrap (i+1)))=_;rw[wrap_id (by omega) (by omega)];rfl,?_⟩
   conv=>whnf
   repeat (refine⟨rfl,?_⟩;conv=>whnf)
   exact trivial
  have hi:i=3:=by
   have:=of_decide_eq_false hc
   omega
  clear hc h1
  subst hi
  have hT9:OpsT H1 O1 v 9:=hT
  clear hT
  obtain⟨ob,oc,rfl,hops⟩:=hT9.sl (by omega)
  conv=>whnf
  refine W_pre fun hd=>⟨_,_,.all hd,?_⟩
  obtain⟨ms,hml,hms,hsq⟩:=hops hd
  clear hops hT9 hs
  replace hG:=hG.up (un_left H1 O1)
  generalize un H1 O1=H2 at hms hG ⊢
  refine W_hide fun Kk hKk=>?_
  refine W_loop (pol:=polDs) Γok (Nat × PH × PH) (fun z=>z.1≤9∧Sub H2 z.2.1) (fun z=>9 - z.1) (fun z=>[(90,.v (.int .i64 z.1))]) (fun _=>[]) (fun z=>z.2.1) (fun z=>z.2.2) ⟨(0,H2,_),⟨by simp,Sub.refl _⟩,rfl,rfl,?_⟩ ?_
  ·conv=>whnf
   repeat (refine⟨rfl,?_⟩;conv=>whnf)
   exact trivial
  rintro ⟨k,kH,kO⟩ ⟨k1,ks⟩
  dsimp only at k1 ks
  conv=>whnf
  refine if_intro (fun kc=>?_) (fun kc=>?_)
  ·have ki:k < 9:=by
    have:=of_decide_eq_true kc
    omega
   clear kc k1
   have hm:sqM (ms[k]'(by omega)):=hsq _ (List.getElem_mem _)
   obtain⟨u,hrd,hu⟩:=(MatsH.up hms ks).rdI (i:=k) (by omega)
   generalize (ms[k]'(by omega))=m at hm hu
   have hm8:=hm.2.1
   have hm0:=hm.1
   obtain⟨ub,uc,rfl⟩:=MatH.sl hu
   obtain⟨db,doff,r0b,r0c,rfl,hrow0,hnum0⟩:=MatH.at hu hm0
   have hl0:=hm.row hm0
   generalize (m[0]'hm0)=l0 at hl0 hrow0 hnum0
   replace hG:=hG.up ks
   replace hms:=MatsH.up hms ks
   conv=>whnf
   refine dec_intro (by dsimp only;omega) ?_
   conv=>whnf
   refine⟨_,hrd _ _ (Sub.refl _),?_⟩
   conv=>whnf
   refine W_hide fun Kn hKn=>?_
   refine W_loop (pol:=polDs) Γok (Nat × PH × PH) (fun z=>z.1≤17∧Sub kH z.2.1) (fun z=>17 - z.1) (fun z=>[(13,.v (.int .i64 ((z.1:Int) - 1)))]) (fun _=>[]) (fun z=>z.2.1) (fun z=>z.2.2) ⟨(0,kH,_),⟨by simp,Sub.refl _⟩,rfl,rfl,?_⟩ ?_
   ·conv=>whnf
    repeat (refine⟨rfl,?_⟩;conv=>whnf)
    exact trivial
   rintro ⟨n,nH,nO⟩ ⟨n1,ns⟩
   dsimp only at n1 ns
   conv=>whnf
   refine if_intro (fun nc=>?_) (fun nc=>?_)
   ·have ni:n < 17:=by
     have:=of_decide_eq_true nc
     omega
    clear nc n1
    replace hG:=GlobH.up hG ns
    replace hu:=MatH.up hu ns
    replace hms:=MatsH.up hms ns
    obtain⟨kind,hkind⟩:∃ kind:Int,kind=(n:Int) - 1:=⟨_,rfl⟩
    rw[← hkind]
    conv=>whnf
    intro b201 hb201 kb201
    conv=>whnf
    refine (e52any kind _).use fun r H202 s202 hr=>?_
    obtain⟨_,ar,rfl⟩:=hr
    have t202:=((sub_ins _ _ hb201).trans s202)
    replace hG:=GlobH.up hG t202
    replace hu:=MatH.up hu t202
    replace hms:=MatsH.up hms t202
    replace ns:=Sub.trans ns t202
    conv=>whnf
    obtain⟨j,hj,j1,j3⟩:=clamp3 ar
    rw[hj]
    refine dec_intro (by omega) ?_
    rw[slice_pre]
    have hw:IntsC H202 (.slice (some ⟨b201,0,none⟩) j 3) _:=pre_ints (l:=[_,_,_]) (s202 _ _ (ins_same _ _ _)) (by simpa using j3) j3
    generalize hws:List.take j _=ws at hw
    have hwl:ws.length≤3:=by rw[← hws,List.length_take];omega
    clear hws
    conv=>whnf
    refine (e51 kind _ ws _ hw).val fun H203 s203=>?_
    have t203:=s203
    replace hG:=GlobH.up hG t203
    replace hu:=MatH.up hu t203
    replace hms:=MatsH.up hms t203
    replace ns:=Sub.trans ns t203
    replace hw:=IntsC.up hw t203
    conv=>whnf
    intro b14
    conv=>whnf
    refine if_intro (fun hneg=>?yes) (fun hneg=>?no)
    case' yes=>
     conv=>whnf
     intro b301 hb301 kb301
     conv=>whnf
     refine (e51 kind _ [0] _ (ints_c (l:=[0]) (ins_same _ _ _))).val fun H302 s302=>?_
     have t302:=((sub_ins _ _ hb301).trans s302)
     replace hG:=GlobH.up hG t302
     replace hu:=MatH.up hu t302
     replace hms:=MatsH.up hms t302
     replace ns:=Sub.trans ns t302
     have ib301:=ints_c (l:=[0]) (s302 _ _ (ins_same _ _ _))
     conv=>whnf
     clear hw hwl
     obtain⟨ws,hw,hwl⟩:∃ ws,IntsC _ (.slice (some ⟨b301,0,none⟩) 1 1) ws∧ws.length≤3:=⟨[0],ib301,by decide⟩
     clear ib301
    case' no=>
     conv=>whnf
    all_goals
     refine (e4 m ⟨kind,_,0,0⟩ _ _ (by omega) (by dsimp only;omega) _ _ _ hG hu hw).val fun H401 s401=>?_
     have t401:=s401
     replace hG:=GlobH.up hG t401
     replace hu:=MatH.up hu t401
     replace hms:=MatsH.up hms t401
     replace ns:=Sub.trans ns t401
     replace hw:=IntsC.up hw t401
     conv=>whnf
     intro b402 hb402 kb402
     conv=>whnf
     refine (e51 kind _ [0] _ (ints_c (l:=[0]) (ins_same _ _ _))).val fun H403 s403=>?_
     have t403:=((sub_ins _ _ hb402).trans s403)
     replace hG:=GlobH.up hG t403
     replace hu:=MatH.up hu t403
     replace hms:=MatsH.up hms t403
     replace ns:=Sub.trans ns t403
     replace hw:=IntsC.up hw t403
     have ib402:=ints_c (l:=[0]) (s403 _ _ (ins_same _ _ _))
     conv=>whnf
     refine (e4 m ⟨kind,[0],0,0⟩ _ _ (by omega) (by simp) _ _ _ hG hu ib402).val fun H404 s404=>?_
     have t404:=s404
     replace hG:=GlobH.up hG t404
     replace hu:=MatH.up hu t404
     replace hms:=MatsH.up hms t404
     replace ns:=Sub.trans ns t404
     replace hw:=IntsC.up hw t404
     replace ib402:=IntsC.up ib402 t404
     conv=>whnf
     intro b405 hb405 kb405
     conv=>whnf
     refine (e51 kind _ [1,0] _ (ints_c (l:=[1,0]) (ins_same _ _ _))).val fun H406 s406=>?_
     have t406:=((sub_ins _ _ hb405).trans s406)
     replace hG:=GlobH.up hG t406
     replace hu:=MatH.up hu t406
     replace hms:=MatsH.up hms t406
     replace ns:=Sub.trans ns t406
     replace hw:=IntsC.up hw t406
     have ib405:=ints_c (l:=[1,0]) (s406 _ _ (ins_same _ _ _))
     conv=>whnf
     refine (e4 m ⟨kind,[1,0],0,0⟩ _ _ (by omega) (by simp) _ _ _ hG hu ib405).val fun H407 s407=>?_
     have t407:=s407
     replace hG:=GlobH.up hG t407
     replace hu:=MatH.up hu t407
     replace hms:=MatsH.up hms t407
     replace ns:=Sub.trans ns t407
     replace hw:=IntsC.up hw t407
     replace ib405:=IntsC.up ib405 t407
     conv=>whnf
     refine W_hide fun KR hKR=>?_
     refine W_freeL (pol:=polDs) Γok mixes 425 (by kernel_rfl) rfl (RI _ _ (S27 (.slice (some ⟨db,doff,none⟩) m.length uc)) 19 T27 (fun x _=>U27 x)) ⟨Sub.refl _,fun _=>rfl,fun i h=>(by cases h),fun h=>(by cases h),fun h=>(by cases h),fun h=>(by cases h)⟩ ⟨?_,?_,?_,?_,?_,?_,?_,?_,?_,?_,?_,?_,?_,?_,?_,?_,?_,?_,?_,?_,?_,trivial⟩ ?_
     ·intro L V H' O' hI hLi hsee
      have get:=fun (j:Nat) (h:seesB _ _ j=true)=>hI.sp j (hsee j h)
      have stp:=fun {H'':PH} {v:Value} (hs:Sub H' H'') (h1:0 ≠ 19) (h2:0 ≠ 19+1) hv=>RI.step (S:=S27 (.slice (some ⟨db,doff,none⟩) m.length uc)) (T:=T27) (T2:=fun x _=>U27 x) (i:=0) (v:=v) (fun h s=>S27.up h s) (fun h s=>h) (fun h s=>U27.up h s) hI hs h1 h2 hv
      conv=>whnf
      exact⟨⟨_,rfl⟩,_,rfl,stp (Sub.refl _) (by decide) (by decide) rfl⟩
     ·intro L V H' O' hI hLi hsee
      have get:=fun (j:Nat) (h:seesB _ _ j=true)=>hI.sp j (hsee j h)
      have stp:=fun {H'':PH} {v:Value} (hs:Sub H' H'') (h1:1 ≠ 19) (h2:1 ≠ 19+1) hv=>RI.step (S:=S27 (.slice (some ⟨db,doff,none⟩) m.length uc)) (T:=T27) (T2:=fun x _=>U27 x) (i:=1) (v:=v) (fun h s=>S27.up h s) (fun h s=>h) (fun h s=>U27.up h s) hI hs h1 h2 hv
      have h0:=get 0 (by kernel_rfl)
      replace h0:V 0=_:=h0
      conv=>whnf
      rw[h0]
      conv=>whnf
      exact⟨⟨_,rfl⟩,_,rfl,stp (Sub.refl _) (by decide) (by decide) ⟨_,rfl⟩⟩
     ·intro L V H' O' hI hLi hsee
      have get:=fun (j:Nat) (h:seesB _ _ j=true)=>hI.sp j (hsee j h)
      have stp:=fun {H'':PH} {v:Value} (hs:Sub H' H'') (h1:2 ≠ 19) (h2:2 ≠ 19+1) hv=>RI.step (S:=S27 (.slice (some ⟨db,doff,none⟩) m.length uc)) (T:=T27) (T2:=fun x _=>U27 x) (i:=2) (v:=v) (fun h s=>S27.up h s) (fun h s=>h) (fun h s=>U27.up h s) hI hs h1 h2 hv
      obtain⟨n1,h1⟩:∃ n:Nat,V 1=.int .i64 n:=get 1 (by kernel_rfl)
      conv=>whnf
      rw[h1]
      conv=>whnf
      refine (e53 n1 _).val fun H3 s3=>?_
      conv=>whnf
      exact⟨⟨_,rfl⟩,_,rfl,stp s3 (by decide) (by decide) ⟨_,rfl⟩⟩
     ·intro L V H' O' hI hLi hsee
      have get:=fun (j:Nat) (h:seesB _ _ j=true)=>hI.sp j (hsee j h)
      have stp:=fun {H'':PH} {v:Value} (hs:Sub H' H'') (h1:3 ≠ 19) (h2:3 ≠ 19+1) hv=>RI.step (S:=S27 (.slice (some ⟨db,doff,none⟩) m.length uc)) (T:=T27) (T2:=fun x _=>U27 x) (i:=3) (v:=v) (fun h s=>S27.up h s) (fun h s=>h) (fun h s=>U27.up h s) hI hs h1 h2 hv
      conv=>whnf
      intro b hb hO
      conv=>whnf
      exact⟨⟨_,rfl⟩,_,rfl,stp (sub_ins _ _ hb) (by decide) (by decide) ⟨b,rfl,ins_same _ _ _⟩⟩
     ·intro L V H' O' hI hLi hsee
      have get:=fun (j:Nat) (h:seesB _ _ j=true)=>hI.sp j (hsee j h)
      have stp:=fun {H'':PH} {v:Value} (hs:Sub H' H'') (h1:4 ≠ 19) (h2:4 ≠ 19+1) hv=>RI.step (S:=S27 (.slice (some ⟨db,doff,none⟩) m.length uc)) (T:=T27) (T2:=fun x _=>U27 x) (i:=4) (v:=v) (fun h s=>S27.up h s) (fun h s=>h) (fun h s=>U27.up h s) hI hs h1 h2 hv
      obtain⟨b3,h3,g3⟩:sl0 H' (V 3):=get 3 (by kernel_rfl)
      conv=>whnf
      rw[h3]
      conv=>whnf
      refine (e51 4 _ [0] _ (ints_c (l:=[0]) g3)).val fun H3 s3=>?_
      conv=>whnf
      exact⟨⟨_,rfl⟩,_,rfl,stp s3 (by decide) (by decide) ⟨⟨4,[0],0,0⟩,_,rfl,ints_c (l:=[0]) (s3 _ _ g3)⟩⟩
     ·intro L V H' O' hI hLi hsee
      have get:=fun (j:Nat) (h:seesB _ _ j=true)=>hI.sp j (hsee j h)
      have stp:=fun {H'':PH} {v:Value} (hs:Sub H' H'') (h1:5 ≠ 19) (h2:5 ≠ 19+1) hv=>RI.step (S:=S27 (.slice (some ⟨db,doff,none⟩) m.length uc)) (T:=T27) (T2:=fun x _=>U27 x) (i:=5) (v:=v) (fun h s=>S27.up h s) (fun h s=>h) (fun h s=>U27.up h s) hI hs h1 h2 hv
      conv=>whnf
      intro b hb hO
      conv=>whnf
      exact⟨⟨_,rfl⟩,_,rfl,stp (sub_ins _ _ hb) (by decide) (by decide) ⟨b,rfl,ins_same _ _ _⟩⟩
     ·intro L V H' O' hI hLi hsee
      have get:=fun (j:Nat) (h:seesB _ _ j=true)=>hI.sp j (hsee j h)
      have stp:=fun {H'':PH} {v:Value} (hs:Sub H' H'') (h1:6 ≠ 19) (h2:6 ≠ 19+1) hv=>RI.step (S:=S27 (.slice (some ⟨db,doff,none⟩) m.length uc)) (T:=T27) (T2:=fun x _=>U27 x) (i:=6) (v:=v) (fun h s=>S27.up h s) (fun h s=>h) (fun h s=>U27.up h s) hI hs h1 h2 hv
      conv=>whnf
      exact⟨⟨_,rfl⟩,_,rfl,stp (Sub.refl _) (by decide) (by decide) ⟨_,rfl⟩⟩
     ·intro L V H' O' hI hLi hsee
      have get:=fun (j:Nat) (h:seesB _ _ j=true)=>hI.sp j (hsee j h)
      have stp:=fun {H'':PH} {v:Value} (hs:Sub H' H'') (h1:7 ≠ 19) (h2:7 ≠ 19+1) hv=>RI.step (S:=S27 (.slice (some ⟨db,doff,none⟩) m.length uc)) (T:=T27) (T2:=fun x _=>U27 x) (i:=7) (v:=v) (fun h s=>S27.up h s) (fun h s=>h) (fun h s=>U27.up h s) hI hs h1 h2 hv
      obtain⟨y6,h6⟩:isI (V 6):=get 6 (by kernel_rfl)
      conv=>whnf
      rw[h6]
      conv=>whnf
      exact⟨⟨_,rfl⟩,_,rfl,stp (Sub.refl _) (by decide) (by decide) ⟨_,rfl⟩⟩
     ·intro L V H' O' hI hLi hsee
      have get:=fun (j:Nat) (h:seesB _ _ j=true)=>hI.sp j (hsee j h)
      have stp:=fun {H'':PH} {v:Value} (hs:Sub H' H'') (h1:8 ≠ 19) (h2:8 ≠ 19+1) hv=>RI.step (S:=S27 (.slice (some ⟨db,doff,none⟩) m.length uc)) (T:=T27) (T2:=fun x _=>U27 x) (i:=8) (v:=v) (fun h s=>S27.up h s) (fun h s=>h) (fun h s=>U27.up h s) hI hs h1 h2 hv
      obtain⟨b5,h5,g5⟩:sl0 H' (V 5):=get 5 (by kernel_rfl)
      obtain⟨y7,h7⟩:isI (V 7):=get 7 (by kernel_rfl)
      conv=>whnf
      rw[h5]
      conv=>whnf
      rw[h7]
      conv=>whnf
      exact⟨⟨_,rfl⟩,_,rfl,stp (Sub.refl _) (by decide) (by decide) ⟨⟨13,[0],y7,0⟩,_,rfl,ints_c (l:=[0]) g5⟩⟩
     ·intro L V H' O' hI hLi hsee
      have get:=fun (j:Nat) (h:seesB _ _ j=true)=>hI.sp j (hsee j h)
      have stp:=fun {H'':PH} {v:Value} (hs:Sub H' H'') (h1:9 ≠ 19) (h2:9 ≠ 19+1) hv=>RI.step (S:=S27 (.slice (some ⟨db,doff,none⟩) m.length uc)) (T:=T27) (T2:=fun x _=>U27 x) (i:=9) (v:=v) (fun h s=>S27.up h s) (fun h s=>h) (fun h s=>U27.up h s) hI hs h1 h2 hv
      conv=>whnf
      intro b hb hO
      conv=>whnf
      exact⟨⟨_,rfl⟩,_,rfl,stp (sub_ins _ _ hb) (by decide) (by decide) ⟨b,rfl,ins_same _ _ _⟩⟩
     ·intro L V H' O' hI hLi hsee
      have get:=fun (j:Nat) (h:seesB _ _ j=true)=>hI.sp j (hsee j h)
      have stp:=fun {H'':PH} {v:Value} (hs:Sub H' H'') (h1:10 ≠ 19) (h2:10 ≠ 19+1) hv=>RI.step (S:=S27 (.slice (some ⟨db,doff,none⟩) m.length uc)) (T:=T27) (T2:=fun x _=>U27 x) (i:=10) (v:=v) (fun h s=>S27.up h s) (fun h s=>h) (fun h s=>U27.up h s) hI hs h1 h2 hv
      conv=>whnf
      exact⟨⟨_,rfl⟩,_,rfl,stp (Sub.refl _) (by decide) (by decide) ⟨_,rfl⟩⟩
     ·intro L V H' O' hI hLi hsee
      have get:=fun (j:Nat) (h:seesB _ _ j=true)=>hI.sp j (hsee j h)
      have stp:=fun {H'':PH} {v:Value} (hs:Sub H' H'') (h1:11 ≠ 19) (h2:11 ≠ 19+1) hv=>RI.step (S:=S27 (.slice (some ⟨db,doff,none⟩) m.length uc)) (T:=T27) (T2:=fun x _=>U27 x) (i:=11) (v:=v) (fun h s=>S27.up h s) (fun h s=>h) (fun h s=>U27.up h s) hI hs h1 h2 hv
      obtain⟨y10,h10⟩:isI (V 10):=get 10 (by kernel_rfl)
      conv=>whnf
      rw[h10]
      conv=>whnf
      exact⟨⟨_,rfl⟩,_,rfl,stp (Sub.refl _) (by decide) (by decide) ⟨_,rfl⟩⟩
     ·intro L V H' O' hI hLi hsee
      have get:=fun (j:Nat) (h:seesB _ _ j=true)=>hI.sp j (hsee j h)
      have stp:=fun {H'':PH} {v:Value} (hs:Sub H' H'') (h1:12 ≠ 19) (h2:12 ≠ 19+1) hv=>RI.step (S:=S27 (.slice (some ⟨db,doff,none⟩) m.length uc)) (T:=T27) (T2:=fun x _=>U27 x) (i:=12) (v:=v) (fun h s=>S27.up h s) (fun h s=>h) (fun h s=>U27.up h s) hI hs h1 h2 hv
      obtain⟨y11,h11⟩:isI (V 11):=get 11 (by kernel_rfl)
      conv=>whnf
      rw[h11]
      conv=>whnf
      exact⟨⟨_,rfl⟩,_,rfl,stp (Sub.refl _) (by decide) (by decide) ⟨_,rfl⟩⟩
     ·intro L V H' O' hI hLi hsee
      have get:=fun (j:Nat) (h:seesB _ _ j=true)=>hI.sp j (hsee j h)
      have stp:=fun {H'':PH} {v:Value} (hs:Sub H' H'') (h1:13 ≠ 19) (h2:13 ≠ 19+1) hv=>RI.step (S:=S27 (.slice (some ⟨db,doff,none⟩) m.length uc)) (T:=T27) (T2:=fun x _=>U27 x) (i:=13) (v:=v) (fun h s=>S27.up h s) (fun h s=>h) (fun h s=>U27.up h s) hI hs h1 h2 hv
      obtain⟨b9,h9,g9⟩:sl0 H' (V 9):=get 9 (by kernel_rfl)
      obtain⟨y12,h12⟩:isI (V 12):=get 12 (by kernel_rfl)
      conv=>whnf
      rw[h9]
      conv=>whnf
      rw[h12]
      conv=>whnf
      exact⟨⟨_,rfl⟩,_,rfl,stp (Sub.refl _) (by decide) (by decide) ⟨⟨2,[0],0,y12⟩,_,rfl,ints_c (l:=[0]) g9⟩⟩
     ·intro L V H' O' hI hLi hsee
      have get:=fun (j:Nat) (h:seesB _ _ j=true)=>hI.sp j (hsee j h)
      have stp:=fun {H'':PH} {v:Value} (hs:Sub H' H'') (h1:14 ≠ 19) (h2:14 ≠ 19+1) hv=>RI.step (S:=S27 (.slice (some ⟨db,doff,none⟩) m.length uc)) (T:=T27) (T2:=fun x _=>U27 x) (i:=14) (v:=v) (fun h s=>S27.up h s) (fun h s=>h) (fun h s=>U27.up h s) hI hs h1 h2 hv
      conv=>whnf
      intro b hb hO
      conv=>whnf
      exact⟨⟨_,rfl⟩,_,rfl,stp (sub_ins _ _ hb) (by decide) (by decide) ⟨b,rfl,ins_same _ _ _⟩⟩
     ·intro L V H' O' hI hLi hsee
      have get:=fun (j:Nat) (h:seesB _ _ j=true)=>hI.sp j (hsee j h)
      have stp:=fun {H'':PH} {v:Value} (hs:Sub H' H'') (h1:15 ≠ 19) (h2:15 ≠ 19+1) hv=>RI.step (S:=S27 (.slice (some ⟨db,doff,none⟩) m.length uc)) (T:=T27) (T2:=fun x _=>U27 x) (i:=15) (v:=v) (fun h s=>S27.up h s) (fun h s=>h) (fun h s=>U27.up h s) hI hs h1 h2 hv
      obtain⟨b14,h14,g14⟩:sl0 H' (V 14):=get 14 (by kernel_rfl)
      conv=>whnf
      rw[h14]
      conv=>whnf
      refine (e51 14 _ [0] _ (ints_c (l:=[0]) g14)).val fun H3 s3=>?_
      conv=>whnf
      exact⟨⟨_,rfl⟩,_,rfl,stp s3 (by decide) (by decide) ⟨⟨14,[0],0,0⟩,_,rfl,ints_c (l:=[0]) (s3 _ _ g14)⟩⟩
     ·intro L V H' O' hI hLi hsee
      have get:=fun (j:Nat) (h:seesB _ _ j=true)=>hI.sp j (hsee j h)
      have stp:=fun {H'':PH} {v:Value} (hs:Sub H' H'') (h1:16 ≠ 19) (h2:16 ≠ 19+1) hv=>RI.step (S:=S27 (.slice (some ⟨db,doff,none⟩) m.length uc)) (T:=T27) (T2:=fun x _=>U27 x) (i:=16) (v:=v) (fun h s=>S27.up h s) (fun h s=>h) (fun h s=>U27.up h s) hI hs h1 h2 hv
      conv=>whnf
      exact⟨⟨_,rfl⟩,_,rfl,stp (Sub.refl _) (by decide) (by decide) ⟨⟨kind,ws,0,0⟩,_,rfl,hw.up hI.sub⟩⟩
     ·intro L V H' O' hI hLi hsee
      have get:=fun (j:Nat) (h:seesB _ _ j=true)=>hI.sp j (hsee j h)
      have stp:=fun {H'':PH} {v:Value} (hs:Sub H' H'') (h1:17 ≠ 19) (h2:17 ≠ 19+1) hv=>RI.step (S:=S27 (.slice (some ⟨db,doff,none⟩) m.length uc)) (T:=T27) (T2:=fun x _=>U27 x) (i:=17) (v:=v) (fun h s=>S27.up h s) (fun h s=>h) (fun h s=>U27.up h s) hI hs h1 h2 hv
      obtain⟨g4,w4,h4,q4⟩:gt4 H' (V 4):=get 4 (by kernel_rfl)
      obtain⟨wb4,wc4,rfl,_⟩:=id q4
      obtain⟨g8,w8,h8,q8⟩:gt4 H' (V 8):=get 8 (by kernel_rfl)
      obtain⟨wb8,wc8,rfl,_⟩:=id q8
      obtain⟨g13,w13,h13,q13⟩:gt4 H' (V 13):=get 13 (by kernel_rfl)
      obtain⟨wb13,wc13,rfl,_⟩:=id q13
      obtain⟨g15,w15,h15,q15⟩:gt4 H' (V 15):=get 15 (by kernel_rfl)
      obtain⟨wb15,wc15,rfl,_⟩:=id q15
      obtain⟨g16,w16,h16,q16⟩:gt4 H' (V 16):=get 16 (by kernel_rfl)
      obtain⟨wb16,wc16,rfl,_⟩:=id q16
      conv=>whnf
      rw[h4]
      conv=>whnf
      rw[h8]
      conv=>whnf
      rw[h13]
      conv=>whnf
      rw[h15]
      conv=>whnf
      rw[h16]
      conv=>whnf
      intro b hb hO
      conv=>whnf
      have s:=sub_ins H' (.cells ⟨[[.int .i64 g4.kind,.slice wb4 g4.ws.length wc4,.int .i64 g4.bit,.int .i64 g4.cond],[.int .i64 g8.kind,.slice wb8 g8.ws.length wc8,.int .i64 g8.bit,.int .i64 g8.cond],[.int .i64 g13.kind,.slice wb13 g13.ws.length wc13,.int .i64 g13.bit,.int .i64 g13.cond],[.int .i64 g15.kind,.slice wb15 g15.ws.length wc15,.int .i64 g15.bit,.int .i64 g15.cond],[.int .i64 g16.kind,.slice wb16 g16.ws.length wc16,.int .i64 g16.bit,.int .i64 g16.cond]].flatten⟩ 42 (0,0)) hb
      exact⟨⟨_,rfl⟩,_,rfl,stp s (by decide) (by decide) (G5_of (c1:=[_,_,_,_]) (c2:=[_,_,_,_]) (c3:=[_,_,_,_]) (c4:=[_,_,_,_]) (c5:=[_,_,_,_]) (ins_same _ _ _) ⟨_,rfl,q4.up s⟩ ⟨_,rfl,q8.up s⟩ ⟨_,rfl,q13.up s⟩ ⟨_,rfl,q15.up s⟩ ⟨_,rfl,q16.up s⟩)⟩
     ·intro L V H' O' hI hLi hsee
      have get:=fun (j:Nat) (h:seesB _ _ j=true)=>hI.sp j (hsee j h)
      have stp:=fun {H'':PH} {v:Value} (hs:Sub H' H'') (h1:18 ≠ 19) (h2:18 ≠ 19+1) hv=>RI.step (S:=S27 (.slice (some ⟨db,doff,none⟩) m.length uc)) (T:=T27) (T2:=fun x _=>U27 x) (i:=18) (v:=v) (fun h s=>S27.up h s) (fun h s=>h) (fun h s=>U27.up h s) hI hs h1 h2 hv
      obtain⟨y2,h2⟩:isI (V 2):=get 2 (by kernel_rfl)
      have h17:G5 H' (V 17):=get 17 (by kernel_rfl)
      obtain⟨b17,gs17,e17,_⟩:=id h17
      conv=>whnf
      rw[h2]
      conv=>whnf
      rw[e17]
      conv=>whnf
      exact⟨⟨_,rfl⟩,_,rfl,stp (Sub.refl _) (by decide) (by decide) ⟨_,_,rfl,e17 ▸ h17⟩⟩
     ·intro L V H' O' hI hLi hsee
      have get:=fun (j:Nat) (h:seesB _ _ j=true)=>hI.sp j (hsee j h)
      have stp:=fun {H'':PH} {v:Value} (hs:Sub H' H'') (h1:19 ≠ 19) (h2:19 ≠ 19+1) hv=>RI.step (S:=S27 (.slice (some ⟨db,doff,none⟩) m.length uc)) (T:=T27) (T2:=fun x _=>U27 x) (i:=19) (v:=v) (fun h s=>S27.up h s) (fun h s=>h) (fun h s=>U27.up h s) hI hs h1 h2 hv
      conv=>whnf
      intro b hb hO
      conv=>whnf
      exact⟨⟨_,rfl⟩,_,rfl,RI.make (S:=S27 (.slice (some ⟨db,doff,none⟩) m.length uc)) (fun h s=>S27.up h s) hI hLi (Sub.refl _) trivial ⟨b,rfl,ins_same _ _ _⟩⟩
     ·intro L V H' O' hI hLi hsee
      have get:=fun (j:Nat) (h:seesB _ _ j=true)=>hI.sp j (hsee j h)
      have stp:=fun {H'':PH} {v:Value} (hs:Sub H' H'') (h1:20 ≠ 19) (h2:20 ≠ 19+1) hv=>RI.step (S:=S27 (.slice (some ⟨db,doff,none⟩) m.length uc)) (T:=T27) (T2:=fun x _=>U27 x) (i:=20) (v:=v) (fun h s=>S27.up h s) (fun h s=>h) (fun h s=>U27.up h s) hI hs h1 h2 hv
      have hL19:L 19=true:=hsee 19 (by kernel_rfl)
      obtain⟨b19,h19,o19⟩:=hI.new hL19 hLi
      obtain⟨y18,g18,h18,q18⟩:∃ y g,V 18=.agg ⟨[.int .i64 y,.int .i64 2,g]⟩∧G5 H' g:=get 18 (by kernel_rfl)
      obtain⟨b17,gs17,rfl,_⟩:=id q18
      conv=>whnf
      rw[h19]
      conv=>whnf
      rw[h18]
      conv=>whnf
      refine⟨_,_,o19,Nat.le_refl 3,?_⟩
      conv=>whnf
      exact⟨⟨_,rfl⟩,_,rfl,RI.done (S:=S27 (.slice (some ⟨db,doff,none⟩) m.length uc)) (fun h s=>S27.up h s) hI hL19 (Sub.refl _) trivial ⟨b19,y18,_,h19,ins_same _ _ _,q18⟩⟩
     ·intro L V H' O' hI hall
      have hL20:L 20=true:=hall 20 (by decide)
      have hN:=hI.nxt hL20
      refine U27.elim hN fun b15 y15 b17 gs e19 o15 gl5 hg5 hg1=>?_
      have s27:=hI.sub
      clear hI hall hN
      conv=>whnf
      rw[← hKR]
      clear hKR KR
      conv=>whnf
      rw[e19]
      conv=>whnf
      replace hG:=GlobH.up hG s27
      replace hu:=MatH.up hu s27
      replace hms:=MatsH.up hms s27
      replace ns:=Sub.trans ns s27
      refine⟨_,⟨rfl,rfl,_,_,_,.inr o15,rfl⟩,?_⟩
      conv=>whnf
      refine (e5 ⟨y15,2,gs⟩ m (by dsimp only;omega) (by omega) _ _ _ hG ⟨_,rfl,hg5⟩ hu).val fun H501 s501=>?_
      have t501:=s501
      replace hG:=GlobH.up hG t501
      replace hu:=MatH.up hu t501
      replace hms:=MatsH.up hms t501
      replace ns:=Sub.trans ns t501
      replace hg5:=GatesH.up hg5 t501
      replace hg1:=GatesH.up hg1 t501
      conv=>whnf
      refine⟨_,⟨rfl,rfl,_,_,_,.inr o15,rfl⟩,?_⟩
      conv=>whnf
      refine (e5 ⟨2,0,gs.take 1⟩ m (by rw[List.length_take,gl5];decide) (by omega) _ _ _ hG ⟨_,rfl,hg1⟩ hu).val fun H502 s502=>?_
      have t502:=s502
      replace hG:=GlobH.up hG t502
      replace hu:=MatH.up hu t502
      replace hms:=MatsH.up hms t502
      replace ns:=Sub.trans ns t502
      replace hg5:=GatesH.up hg5 t502
      replace hg1:=GatesH.up hg1 t502
      conv=>whnf
      refine⟨(n+1,_,O'),⟨ni,ns⟩,by dsimp only;omega,?_⟩
      refine⟨rfl,rfl,?_⟩
      conv=>whnf
      repeat (refine⟨rfl,?_⟩;conv=>whnf)
      refine⟨by show En.v (.int .i64 (IntKind.i64.wrap (kind+1)))=_;rw[wrap_id (by omega) (by omega),hkind];congr 2;omega,?_⟩
      conv=>whnf
      repeat (refine⟨rfl,?_⟩;conv=>whnf)
      exact trivial
   have ne:n=17:=by
    have:=of_decide_eq_false nc
    omega
   clear nc n1
   subst ne
   conv=>whnf
   rw[← hKn]
   clear hKn Kn
   replace hG:=GlobH.up hG ns
   replace hu:=MatH.up hu ns
   replace hms:=MatsH.up hms ns
   have hk:=ns
   clear ns
   conv=>whnf
   refine W_hide fun Ko hKo=>?_
   refine W_loop (pol:=polDs) Γok (Nat × PH × PH) (fun z=>z.1≤9∧Sub nH z.2.1) (fun z=>9 - z.1) (fun z=>[(188,.v (.int .i64 z.1))]) (fun _=>[]) (fun z=>z.2.1) (fun z=>z.2.2) ⟨(0,nH,_),⟨by simp,Sub.refl _⟩,rfl,rfl,?_⟩ ?_
   ·conv=>whnf
    repeat (refine⟨rfl,?_⟩;conv=>whnf)
    exact trivial
   rintro ⟨o,oH,oO⟩ ⟨o1,os⟩
   dsimp only at o1 os
   conv=>whnf
   refine if_intro (fun oc=>?_) (fun oc=>?_)
   ·have oi:o < 9:=by
     have:=of_decide_eq_true oc
     omega
    clear oc o1
    replace hG:=GlobH.up hG os
    replace hu:=MatH.up hu os
    replace hms:=MatsH.up hms os
    replace hk:=Sub.trans hk os
    have hm2:sqM (ms[o]'(by omega)):=hsq _ (List.getElem_mem _)
    obtain⟨u2,hrd2,hu2⟩:=hms.rdI (i:=o) (by omega)
    generalize (ms[o]'(by omega))=m2 at hm2 hu2
    have h28:=hm2.2.1
    have h20:=hm2.1
    obtain⟨ub2,uc2,rfl⟩:=MatH.sl hu2
    obtain⟨db2,do2,r2b,r2c,rfl,hrow2,hnum2⟩:=MatH.at hu2 h20
    have hl2:=hm2.row h20
    generalize (m2[0]'h20)=l2 at hl2 hrow2 hnum2
    have hz:=Sub.refl oH
    conv=>whnf
    refine dec_intro (by omega) ?_
    conv=>whnf
    refine⟨_,hrd2 _ _ (Sub.refl _),?_⟩
    conv=>whnf
    refine W_draw (pol:=polDs) Γok mixes [(0,.pendO),(1,.pendO),(2,.lock),(3,.pendO),(4,.pendO),(5,.pendO),(6,.pendO),(7,.pendO),(8,.pendO),(9,.pendO),(10,.pendO),(11,.pendO),(12,.pendO),(13,.lock),(14,.pendO),(15,.pendO),(16,.pendO),(17,.pendO),(18,.pendO),(19,.pendO),(20,.pendO),(21,.pendO),(22,.pendO),(23,.pendO),(24,.pendO),(25,.pendO),(26,.lock),(27,.pendO),(28,.pendO)] 425 (by kernel_rfl) rfl ?_
    conv=>whnf
    refine (e6 m m2 (by omega) (by omega) _ _ _ hG hu hu2).val fun H601 s601=>?_
    have t601:=s601
    replace hG:=GlobH.up hG t601
    replace hu:=MatH.up hu t601
    replace hms:=MatsH.up hms t601
    replace hk:=Sub.trans hk t601
    replace os:=Sub.trans os t601
    replace hu2:=MatH.up hu2 t601
    replace hz:=Sub.trans hz t601
    conv=>whnf
    refine dec_intro (by omega) ?_
    conv=>whnf
    refine⟨_,hrow0 _ _ hk,?_⟩
    conv=>whnf
    refine⟨_,Rd_up hG.1 (Sub.refl _),?_⟩
    conv=>whnf
    refine (e3 l0 m m2 (nu 1 2) (nI (-1) 1 0 (-1) 0) k (by omega) (by omega) (by omega) (by omega) _ _ _ _ hG (hnum0.up hk) hu hu2).val fun H602 s602=>?_
    have t602:=s602
    replace hG:=GlobH.up hG t602
    replace hu:=MatH.up hu t602
    replace hms:=MatsH.up hms t602
    replace hk:=Sub.trans hk t602
    replace os:=Sub.trans os t602
    replace hu2:=MatH.up hu2 t602
    replace hz:=Sub.trans hz t602
    conv=>whnf
    refine dec_intro (by omega) ?_
    conv=>whnf
    refine⟨_,hrow2 _ _ hz,?_⟩
    conv=>whnf
    refine⟨_,Rd_up hG.1 (Sub.refl _),?_⟩
    conv=>whnf
    refine (e3 l2 m m (nI 0 0 1 0 0) (nu 1 2) (IntKind.i64.wrap (0 - (k:Int))) (by rw[wrap_id (by omega) (by omega)];omega) (by omega) (by omega) (by omega) _ _ _ _ hG (hnum2.up hz) hu hu).val fun H603 s603=>?_
    have t603:=s603
    replace hG:=GlobH.up hG t603
    replace hu:=MatH.up hu t603
    replace hms:=MatsH.up hms t603
    replace hk:=Sub.trans hk t603
    replace os:=Sub.trans os t603
    replace hu2:=MatH.up hu2 t603
    replace hz:=Sub.trans hz t603
    conv=>whnf
    refine⟨(o+1,_,oO),⟨oi,os⟩,by dsimp only;omega,?_⟩
    refine⟨rfl,rfl,?_⟩
    conv=>whnf
    repeat (refine⟨rfl,?_⟩;conv=>whnf)
    refine⟨by show En.v (.int .i64 (IntKind.i64.wrap (o+1)))=_;rw[wrap_id (by omega) (by omega)];rfl,?_⟩
    conv=>whnf
    repeat (refine⟨rfl,?_⟩;conv=>whnf)
    exact trivial
   have oe:o=9:=by
    have:=of_decide_eq_false oc
    omega
   clear oc o1
   subst oe
   conv=>whnf
   rw[← hKo]
   clear hKo Ko
   replace hG:=GlobH.up hG os
   replace hu:=MatH.up hu os
   replace hms:=MatsH.up hms os
   replace hk:=Sub.trans hk os
   conv=>whnf
   intro bv hbv kbv
   conv=>whnf
   have sv:Sub oH (PH.ins oH bv (.cells ⟨cellsN [(⟨1073741824,0,0,0⟩,0),(⟨1073741825,0,0,0⟩,0),(⟨1,0,0,0⟩,60),(⟨1,0,0,0⟩,61),(⟨1,0,0,0⟩,-1),(⟨0,1,0,0⟩,0),(⟨65536,0,0,0⟩,0)]⟩ 25 (0,0))):=sub_ins oH _ hbv
   replace hG:=GlobH.up hG sv
   replace hu:=MatH.up hu sv
   replace hms:=MatsH.up hms sv
   replace hk:=Sub.trans hk sv
   have hk2:=hk
   refine W_hide fun Kv hKv=>?_
   refine W_loop (pol:=polDs) Γok (Nat × PH × PH) (fun z=>z.1≤7∧Sub (PH.ins oH bv (.cells ⟨cellsN [(⟨1073741824,0,0,0⟩,0),(⟨1073741825,0,0,0⟩,0),(⟨1,0,0,0⟩,60),(⟨1,0,0,0⟩,61),(⟨1,0,0,0⟩,-1),(⟨0,1,0,0⟩,0),(⟨65536,0,0,0⟩,0)]⟩ 25 (0,0))) z.2.1) (fun z=>7 - z.1) (fun z=>[(231,.v (.int .i64 z.1))]) (fun _=>[]) (fun z=>z.2.1) (fun z=>z.2.2) ⟨(0,(PH.ins oH bv (.cells ⟨cellsN [(⟨1073741824,0,0,0⟩,0),(⟨1073741825,0,0,0⟩,0),(⟨1,0,0,0⟩,60),(⟨1,0,0,0⟩,61),(⟨1,0,0,0⟩,-1),(⟨0,1,0,0⟩,0),(⟨65536,0,0,0⟩,0)]⟩ 25 (0,0))),_),⟨by simp,Sub.refl _⟩,rfl,rfl,?_⟩ ?_
   ·conv=>whnf
    repeat (refine⟨rfl,?_⟩;conv=>whnf)
    exact trivial
   rintro ⟨v,vH,vO⟩ ⟨v1,vs⟩
   dsimp only at v1 vs
   conv=>whnf
   refine if_intro (fun vc=>?_) (fun vc=>?_)
   ·have vi:v < 7:=by
     have:=of_decide_eq_true vc
     omega
    clear vc v1
    replace hG:=GlobH.up hG vs
    replace hu:=MatH.up hu vs
    replace hms:=MatsH.up hms vs
    replace hk:=Sub.trans hk vs
    replace hk2:=hk2.trans vs
    conv=>whnf
    refine dec_intro (by dsimp only;omega) ?_
    conv=>whnf
    refine at_nums (L:=[(⟨1073741824,0,0,0⟩,0),(⟨1073741825,0,0,0⟩,0),(⟨1,0,0,0⟩,60),(⟨1,0,0,0⟩,61),(⟨1,0,0,0⟩,-1),(⟨0,1,0,0⟩,0),(⟨65536,0,0,0⟩,0)]) (i:=v) vi fun x=>?_
    conv=>whnf
    intro bx
    conv=>whnf
    refine W_hide fun Ky hKy=>?_
    refine W_loop (pol:=polDs) Γok (Nat × PH × PH) (fun z=>z.1≤m.length∧Sub vH z.2.1) (fun z=>m.length - z.1) (fun z=>[(237,.v (.int .i64 z.1))]) (fun _=>[]) (fun z=>z.2.1) (fun z=>z.2.2) ⟨(0,vH,_),⟨by simp,Sub.refl _⟩,rfl,rfl,?_⟩ ?_
    ·conv=>whnf
     repeat (refine⟨rfl,?_⟩;conv=>whnf)
     exact trivial
    rintro ⟨y,yH,yO⟩ ⟨y1,ys⟩
    dsimp only at y1 ys
    conv=>whnf
    refine if_intro (fun yc=>?_) (fun yc=>?_)
    ·have yi:y < m.length:=by
      have:=of_decide_eq_true yc
      omega
     clear yc y1
     replace hG:=GlobH.up hG ys
     replace hu:=MatH.up hu ys
     replace hms:=MatsH.up hms ys
     replace hk:=Sub.trans hk ys
     conv=>whnf
     refine c15k hu hm fun bx1 cx1 us1 H701 O701 s701 ho hr hrd=>?_
     replace hG:=GlobH.up hG s701
     replace hu:=MatH.up hu s701
     replace hms:=MatsH.up hms s701
     replace hk:=Sub.trans hk s701
     replace ys:=Sub.trans ys s701
     conv=>whnf
     refine W_draw (pol:=polDs) Γok mixes [(0,.pendO),(1,.pendO),(2,.pendO),(3,.pendO),(4,.pendO),(5,.pendO),(6,.pendO),(7,.lock)] 425 (by kernel_rfl) rfl ?_
     conv=>whnf
     refine setNk ho hr yi (by rw[hm.row yi];exact yi) x fun b1 c1 cs1 e1 e2 e3 e4 e5=>?_
     have hmy:=hm.row yi
     refine dec_intro (by omega) ?_
     conv=>whnf
     refine⟨_,hrd y _ e1 _,?_⟩
     conv=>whnf
     refine dec_intro (by omega) ?_
     conv=>whnf
     refine⟨_,_,e2,e3,?_⟩
     conv=>whnf
     refine Cl.pubRow (c15x m _ emp _ hu hm).ent e4 e5 fun H702 s702 hx=>?_
     replace hG:=GlobH.up hG s702
     replace hu:=MatH.up hu s702
     replace hms:=MatsH.up hms s702
     replace hk:=Sub.trans hk s702
     replace ys:=Sub.trans ys s702
     have hqx:=hm.set yi (k:=y) x
     have hlx:(m.set y ((m[y]'yi).set y x)).length=m.length:=List.length_set
     generalize m.set y ((m[y]'yi).set y x)=mx at hx hqx hlx
     clear ho hr hrd e1 e2 e3 e4 e5
     refine c15k hu hm fun by1 cy1 us2 H703 O703 s703 ho hr hrd=>?_
     replace hG:=GlobH.up hG s703
     replace hu:=MatH.up hu s703
     replace hms:=MatsH.up hms s703
     replace hk:=Sub.trans hk s703
     replace ys:=Sub.trans ys s703
     replace hx:=MatH.up hx s703
     conv=>whnf
     refine W_draw (pol:=polDs) Γok mixes [(0,.pendO),(1,.pendO),(2,.pendO),(3,.pendO),(4,.pendO),(5,.pendO),(6,.lock)] 425 (by kernel_rfl) rfl ?_
     conv=>whnf
     refine setNk ho hr hm0 (k:=y) (by rw[hm.row hm0];exact yi) x fun b1 c1 cs1 e1 e2 e3 e4 e5=>?_
     have hm00:=hm.row hm0
     refine dec_intro (by omega) ?_
     conv=>whnf
     refine⟨_,hrd 0 _ e1 _,?_⟩
     conv=>whnf
     refine dec_intro (by omega) ?_
     conv=>whnf
     refine⟨_,_,e2,e3,?_⟩
     conv=>whnf
     refine W_pubRow e4 e5 fun H704 s704 hy=>?_
     replace hG:=GlobH.up hG s704
     replace hu:=MatH.up hu s704
     replace hms:=MatsH.up hms s704
     replace hk:=Sub.trans hk s704
     replace ys:=Sub.trans ys s704
     replace hx:=MatH.up hx s704
     have hqy:=hm.set hm0 (k:=y) x
     have hly:(m.set 0 ((m[0]'hm0).set y x)).length=m.length:=List.length_set
     generalize m.set 0 ((m[0]'hm0).set y x)=my at hy hqy hly
     clear ho hr hrd e1 e2 e3 e4 e5
     refine rowk hx hqx (i:=y) (by omega) fun b71 c71 lx hlrx hrx hnx=>?_
     refine rowk hy hqy (i:=0) (by omega) fun b81 c81 ly hlry hry hny=>?_
     have hz:=Sub.refl H704
     refine W_draw (pol:=polDs) Γok mixes [(0,.pendO),(1,.pendO),(2,.lock),(3,.pendO),(4,.pendO),(5,.pendO),(6,.pendO),(7,.lock),(8,.pendO),(9,.pendO),(10,.pendO),(11,.pend),(12,.lock),(13,.lock),(14,.lock),(15,.pendO),(16,.pendO),(17,.pendO),(18,.pend),(19,.lock),(20,.lock),(21,.lock),(22,.pendO),(23,.pendO),(24,.pendO),(25,.pendO),(26,.pendO),(27,.pendO),(28,.pendO),(29,.pendO),(30,.pendO),(31,.pendO),(32,.lock),(33,.pendO),(34,.pendO),(35,.pendO),(36,.pendO),(37,.pendO),(38,.pendO),(39,.pendO),(40,.pendO),(41,.pendO),(42,.pendO),(43,.pendO),(44,.lock),(45,.pendO),(46,.pendO),(47,.pendO),(48,.pendO),(49,.pendO),(50,.lock),(51,.pendO),(52,.pendO)] 425 (by kernel_rfl) rfl ?_
     conv=>whnf
     refine (e6 mx my (by omega) (by omega) _ _ _ hG hx hy).val fun H701 s701=>?_
     have t701:=s701
     replace hG:=GlobH.up hG t701
     replace hu:=MatH.up hu t701
     replace hms:=MatsH.up hms t701
     replace hk:=Sub.trans hk t701
     replace ys:=Sub.trans ys t701
     replace hx:=MatH.up hx t701
     replace hy:=MatH.up hy t701
     replace hz:=Sub.trans hz t701
     conv=>whnf
     refine (e6 my mx (by omega) (by omega) _ _ _ hG hy hx).val fun H702 s702=>?_
     have t702:=s702
     replace hG:=GlobH.up hG t702
     replace hu:=MatH.up hu t702
     replace hms:=MatsH.up hms t702
     replace hk:=Sub.trans hk t702
     replace ys:=Sub.trans ys t702
     replace hx:=MatH.up hx t702
     replace hy:=MatH.up hy t702
     replace hz:=Sub.trans hz t702
     conv=>whnf
     intro b703 hb703 kb703
     conv=>whnf
     refine (e51 4 _ [0] _ (ints_c (l:=[0]) (ins_same _ _ _))).val fun H704 s704=>?_
     have t704:=((sub_ins _ _ hb703).trans s704)
     replace hG:=GlobH.up hG t704
     replace hu:=MatH.up hu t704
     replace hms:=MatsH.up hms t704
     replace hk:=Sub.trans hk t704
     replace ys:=Sub.trans ys t704
     replace hx:=MatH.up hx t704
     replace hy:=MatH.up hy t704
     replace hz:=Sub.trans hz t704
     have ib703:=ints_c (l:=[0]) (s704 _ _ (ins_same _ _ _))
     conv=>whnf
     refine (e4 mx ⟨4,[0],0,0⟩ _ _ (by omega) (by simp) _ _ _ hG hx ib703).val fun H705 s705=>?_
     have t705:=s705
     replace hG:=GlobH.up hG t705
     replace hu:=MatH.up hu t705
     replace hms:=MatsH.up hms t705
     replace hk:=Sub.trans hk t705
     replace ys:=Sub.trans ys t705
     replace hx:=MatH.up hx t705
     replace hy:=MatH.up hy t705
     replace hz:=Sub.trans hz t705
     replace ib703:=IntsC.up ib703 t705
     conv=>whnf
     intro b706 hb706 kb706
     conv=>whnf
     refine (e51 4 _ [0] _ (ints_c (l:=[0]) (ins_same _ _ _))).val fun H707 s707=>?_
     have t707:=((sub_ins _ _ hb706).trans s707)
     replace hG:=GlobH.up hG t707
     replace hu:=MatH.up hu t707
     replace hms:=MatsH.up hms t707
     replace hk:=Sub.trans hk t707
     replace ys:=Sub.trans ys t707
     replace hx:=MatH.up hx t707
     replace hy:=MatH.up hy t707
     replace hz:=Sub.trans hz t707
     have ib706:=ints_c (l:=[0]) (s707 _ _ (ins_same _ _ _))
     conv=>whnf
     refine (e4 my ⟨4,[0],0,0⟩ _ _ (by omega) (by simp) _ _ _ hG hy ib706).val fun H708 s708=>?_
     have t708:=s708
     replace hG:=GlobH.up hG t708
     replace hu:=MatH.up hu t708
     replace hms:=MatsH.up hms t708
     replace hk:=Sub.trans hk t708
     replace ys:=Sub.trans ys t708
     replace hx:=MatH.up hx t708
     replace hy:=MatH.up hy t708
     replace hz:=Sub.trans hz t708
     replace ib706:=IntsC.up ib706 t708
     conv=>whnf
     refine dec_intro (by omega) ?_
     conv=>whnf
     refine⟨_,hry _ _ hz,?_⟩
     conv=>whnf
     refine⟨_,Rd_up hG.1 (Sub.refl _),?_⟩
     conv=>whnf
     refine (e3 ly mx m x (nu 1 2) 0 (by omega) (by omega) (by omega) (by omega) _ _ _ _ hG (hny.up hz) hx hu).val fun H709 s709=>?_
     have t709:=s709
     replace hG:=GlobH.up hG t709
     replace hu:=MatH.up hu t709
     replace hms:=MatsH.up hms t709
     replace hk:=Sub.trans hk t709
     replace ys:=Sub.trans ys t709
     replace hx:=MatH.up hx t709
     replace hy:=MatH.up hy t709
     replace hz:=Sub.trans hz t709
     conv=>whnf
     refine dec_intro (by omega) ?_
     conv=>whnf
     refine⟨_,hrx _ _ hz,?_⟩
     conv=>whnf
     refine⟨_,Rd_up hG.1 (Sub.refl _),?_⟩
     conv=>whnf
     refine (e3 lx m mx (nu 1 2) x 4 (by omega) (by omega) (by omega) (by omega) _ _ _ _ hG (hnx.up hz) hu hx).val fun H710 s710=>?_
     have t710:=s710
     replace hG:=GlobH.up hG t710
     replace hu:=MatH.up hu t710
     replace hms:=MatsH.up hms t710
     replace hk:=Sub.trans hk t710
     replace ys:=Sub.trans ys t710
     replace hx:=MatH.up hx t710
     replace hy:=MatH.up hy t710
     replace hz:=Sub.trans hz t710
     conv=>whnf
     refine (e5 ⟨1,0,[]⟩ mx (by simp) (by omega) _ _ _ hG ⟨_,rfl,gates_nil _⟩ hx).val fun H711 s711=>?_
     have t711:=s711
     replace hG:=GlobH.up hG t711
     replace hu:=MatH.up hu t711
     replace hms:=MatsH.up hms t711
     replace hk:=Sub.trans hk t711
     replace ys:=Sub.trans ys t711
     replace hx:=MatH.up hx t711
     replace hy:=MatH.up hy t711
     replace hz:=Sub.trans hz t711
     conv=>whnf
     refine⟨(y+1,_,emp),⟨yi,ys⟩,by dsimp only;omega,?_⟩
     refine⟨rfl,rfl,?_⟩
     conv=>whnf
     repeat (refine⟨rfl,?_⟩;conv=>whnf)
     refine⟨by show En.v (.int .i64 (IntKind.i64.wrap (y+1)))=_;rw[wrap_id (by omega) (by omega)];rfl,?_⟩
     conv=>whnf
     repeat (refine⟨rfl,?_⟩;conv=>whnf)
     exact trivial
    have ye:y=m.length:=by
     have:=of_decide_eq_false yc
     omega
    clear yc y1
    subst ye
    conv=>whnf
    rw[← hKy]
    clear hKy Ky
    replace vs:=vs.trans ys
    conv=>whnf
    refine⟨(v+1,_,yO),⟨vi,vs⟩,by dsimp only;omega,?_⟩
    refine⟨rfl,rfl,?_⟩
    conv=>whnf
    repeat (refine⟨rfl,?_⟩;conv=>whnf)
    refine⟨by show En.v (.int .i64 (IntKind.i64.wrap (v+1)))=_;rw[wrap_id (by omega) (by omega)];rfl,?_⟩
    conv=>whnf
    repeat (refine⟨rfl,?_⟩;conv=>whnf)
    exact trivial
   have ve:v=7:=by
    have:=of_decide_eq_false vc
    omega
   clear vc v1
   subst ve
   conv=>whnf
   rw[← hKv]
   clear hKv Kv
   replace hk:=hk.trans vs
   conv=>whnf
   replace ks:=ks.trans hk
   refine⟨(k+1,_,vO),⟨ki,ks⟩,by dsimp only;omega,?_⟩
   refine⟨rfl,rfl,?_⟩
   conv=>whnf
   repeat (refine⟨rfl,?_⟩;conv=>whnf)
   refine⟨by show En.v (.int .i64 (IntKind.i64.wrap (k+1)))=_;rw[wrap_id (by omega) (by omega)];rfl,?_⟩
   conv=>whnf
   repeat (refine⟨rfl,?_⟩;conv=>whnf)
   exact trivial
  have ke:k=9:=by
   have:=of_decide_eq_false kc
   omega
  clear kc k1
  subst ke
  conv=>whnf
  rw[← hKk]
  clear hKk Kk
  replace hms:=MatsH.up hms ks
  replace hG:=hG.up ks
  conv=>whnf
  intro b23 hb23 kb23
  conv=>whnf
  refine⟨_,_,ins_same _ _ _,by decide,?_⟩
  rw[ins_ins]
  conv=>whnf
  refine W_hide fun Kg hKg=>?_
  refine W_loop (pol:=polDs) Γok (Nat × PH × PH × Value × List Gt × List (List Value) × Int) (fun z=>z.1≤10∧Sub kH z.2.1∧GB b23 z.1 z.2.2.2.2.2.2 z.2.2.2.1 z.2.2.2.2.1 z.2.2.2.2.2.1 z.2.1 z.2.2.1) (fun z=>10 - z.1) (fun z=>[(314,.v (.int .i64 z.1))]) (fun _=>[]) (fun z=>z.2.1) (fun z=>z.2.2.1) ⟨(0,kH,_,.slice none 0 0,[],[],0),⟨by simp,Sub.refl _,ins_same _ _ _,⟨by simp,.inl ⟨rfl,rfl⟩⟩,⟨rfl,by simp⟩,rfl⟩,rfl,rfl,?_⟩ ?_
  ·conv=>whnf
   repeat (refine⟨rfl,?_⟩;conv=>whnf)
   exact trivial
  rintro ⟨k,gH,gO,gv,gs,cs,gbits⟩ ⟨k1,gs0,hgb⟩
  dsimp only at k1 gs0 hgb
  conv=>whnf
  refine if_intro (fun kc=>?_) (fun kc=>?_)
  ·have ki:k < 10:=by
    have:=of_decide_eq_true kc
    omega
   clear kc k1
   replace hG:=hG.up gs0
   replace hms:=MatsH.up hms gs0
   conv=>whnf
   refine⟨_,_,hgb.1,(by show 2≤3;decide),?_⟩
   obtain⟨vb,vn,vc,rfl⟩:=OwnS.sl hgb.2.1
   replace hgb:=GB.bits (bits':=(if 5 < (k:Int) then 5 else (k:Int))) hgb
   conv=>whnf
   refine W_O (O':=PH.ins gO b23 (.cells ⟨[.int .i64 1,.int .i64 (if 5 < (k:Int) then 5 else (k:Int)),.slice vb vn vc]⟩ 56 (0,0))) (congrArg (fun c=>PH.ins gO b23 (.cells ⟨c⟩ 56 (0,0))) rfl) ?_
   generalize (if 5 < (k:Int) then 5 else (k:Int))=bits at hgb ⊢
   generalize PH.ins gO b23 (.cells ⟨[.int .i64 1,.int .i64 bits,.slice vb vn vc]⟩ 56 (0,0))=gO2 at hgb ⊢
   refine W_hide fun KR hKR=>?_
   refine W_freeL (pol:=polDs) Γok mixes 425 (by kernel_rfl) rfl (SM gH b23 k bits (.slice vb vn vc) gs cs) ⟨Sub.refl _,fun _=>hgb.1,fun _=>hgb.2.1,fun i h=>(by cases h),fun h=>(by cases h),fun h=>(by cases h)⟩ ⟨?_,?_,?_,?_,?_,?_,?_,?_,?_,?_,?_,?_,?_,?_,?_,?_,?_,?_,?_,trivial⟩ fun L V H' O' hI hall=>SM.elim (hI.sp 18 (hall 18 (by decide))) fun v1 gl' cs' hl2 hO7 hov hgc=>?_
   ·intro L V H' O' hI hLi hsee
    have get:∀ j,seesB _ _ j=true→SMq b23 k bits (.slice vb vn vc) gs cs j (V j) H' O':=fun j h=>hI.sp j (hsee j h)
    conv=>whnf
    exact⟨⟨_,rfl⟩,_,rfl,hI.step (Sub.refl _) (by decide) (by decide) rfl⟩
   ·intro L V H' O' hI hLi hsee
    have get:∀ j,seesB _ _ j=true→SMq b23 k bits (.slice vb vn vc) gs cs j (V j) H' O':=fun j h=>hI.sp j (hsee j h)
    have h0:V 0=.pointer (some ⟨b23,2,none⟩):=get 0 (by kernel_rfl)
    have h9:L 18=false:=by
     cases e:L 18 with
     | false=>rfl
     | true=>
      have:=hI.c30 (hI.c32 e)
      rw[hLi] at this
      cases this
    conv=>whnf
    rw[h0]
    conv=>whnf
    refine⟨[.slice vb vn vc],⟨rfl,rfl,_,_,_,.inr (hI.old h9),rfl⟩,?_⟩
    conv=>whnf
    exact⟨⟨_,rfl⟩,_,rfl,hI.step (Sub.refl _) (by decide) (by decide) rfl⟩
   ·intro L V H' O' hI hLi hsee
    have get:∀ j,seesB _ _ j=true→SMq b23 k bits (.slice vb vn vc) gs cs j (V j) H' O':=fun j h=>hI.sp j (hsee j h)
    conv=>whnf
    intro b hb hO
    conv=>whnf
    exact⟨⟨_,rfl⟩,_,rfl,hI.step (sub_ins _ _ hb) (by decide) (by decide) ⟨b,rfl,_,_,_,ins_same _ _ _⟩⟩
   ·intro L V H' O' hI hLi hsee
    have get:∀ j,seesB _ _ j=true→SMq b23 k bits (.slice vb vn vc) gs cs j (V j) H' O':=fun j h=>hI.sp j (hsee j h)
    conv=>whnf
    exact⟨⟨_,rfl⟩,_,rfl,hI.step (Sub.refl _) (by decide) (by decide) rfl⟩
   ·intro L V H' O' hI hLi hsee
    have get:∀ j,seesB _ _ j=true→SMq b23 k bits (.slice vb vn vc) gs cs j (V j) H' O':=fun j h=>hI.sp j (hsee j h)
    have h3:V 3=.int .i64 (k:Int):=get 3 (by kernel_rfl)
    conv=>whnf
    rw[h3]
    conv=>whnf
    exact⟨⟨_,rfl⟩,_,rfl,hI.step (Sub.refl _) (by decide) (by decide) (tmod3 k)⟩
   ·intro L V H' O' hI hLi hsee
    have get:∀ j,seesB _ _ j=true→SMq b23 k bits (.slice vb vn vc) gs cs j (V j) H' O':=fun j h=>hI.sp j (hsee j h)
    obtain⟨ba,ha,ta⟩:sl3 H' (V 2):=get 2 (by kernel_rfl)
    obtain⟨j,hj,hj3⟩:isJ (V 4):=get 4 (by kernel_rfl)
    conv=>whnf
    rw[ha]
    conv=>whnf
    rw[hj]
    conv=>whnf
    refine dec_intro (by omega) ?_
    conv=>whnf
    rcases (show j=0∨j=1∨j=2 by omega) with rfl | rfl | rfl<;>exact⟨⟨_,rfl⟩,_,rfl,hI.step (Sub.refl _) (by decide) (by decide) ⟨ba,_,rfl,by decide,ta⟩⟩
   ·intro L V H' O' hI hLi hsee
    have get:∀ j,seesB _ _ j=true→SMq b23 k bits (.slice vb vn vc) gs cs j (V j) H' O':=fun j h=>hI.sp j (hsee j h)
    obtain⟨ba,j,ha,hj3,y1,y2,y3,ta⟩:pt3 H' (V 5):=get 5 (by kernel_rfl)
    conv=>whnf
    rw[ha]
    conv=>whnf
    rcases (show j=0∨j=1∨j=2 by omega) with rfl | rfl | rfl
    ·refine⟨[.int .i64 y1],⟨rfl,rfl,_,_,_,.inl ta,rfl⟩,?_⟩
     conv=>whnf
     exact⟨⟨_,rfl⟩,_,rfl,hI.step (Sub.refl _) (by decide) (by decide) ⟨_,rfl⟩⟩
    ·refine⟨[.int .i64 y2],⟨rfl,rfl,_,_,_,.inl ta,rfl⟩,?_⟩
     conv=>whnf
     exact⟨⟨_,rfl⟩,_,rfl,hI.step (Sub.refl _) (by decide) (by decide) ⟨_,rfl⟩⟩
    ·refine⟨[.int .i64 y3],⟨rfl,rfl,_,_,_,.inl ta,rfl⟩,?_⟩
     conv=>whnf
     exact⟨⟨_,rfl⟩,_,rfl,hI.step (Sub.refl _) (by decide) (by decide) ⟨_,rfl⟩⟩
   ·intro L V H' O' hI hLi hsee
    have get:∀ j,seesB _ _ j=true→SMq b23 k bits (.slice vb vn vc) gs cs j (V j) H' O':=fun j h=>hI.sp j (hsee j h)
    conv=>whnf
    intro b hb hO
    conv=>whnf
    exact⟨⟨_,rfl⟩,_,rfl,hI.step (sub_ins _ _ hb) (by decide) (by decide) ⟨b,rfl,ins_same _ _ _⟩⟩
   ·intro L V H' O' hI hLi hsee
    have get:∀ j,seesB _ _ j=true→SMq b23 k bits (.slice vb vn vc) gs cs j (V j) H' O':=fun j h=>hI.sp j (hsee j h)
    obtain⟨y6,h6⟩:isI (V 6):=get 6 (by kernel_rfl)
    obtain⟨b7,h7,g7⟩:sl0 H' (V 7):=get 7 (by kernel_rfl)
    conv=>whnf
    rw[h6]
    conv=>whnf
    rw[h7]
    conv=>whnf
    refine (e51 y6 _ [0] _ (ints_c (l:=[0]) g7)).val fun H3 s3=>?_
    conv=>whnf
    exact⟨⟨_,rfl⟩,_,rfl,hI.step s3 (by decide) (by decide) ⟨⟨y6,[0],0,0⟩,_,rfl,ints_c (l:=[0]) (s3 _ _ g7)⟩⟩
   ·intro L V H' O' hI hLi hsee
    have get:∀ j,seesB _ _ j=true→SMq b23 k bits (.slice vb vn vc) gs cs j (V j) H' O':=fun j h=>hI.sp j (hsee j h)
    conv=>whnf
    intro b hb hO
    conv=>whnf
    exact⟨⟨_,rfl⟩,_,rfl,hI.step (sub_ins _ _ hb) (by decide) (by decide) ⟨b,rfl,ins_same _ _ _⟩⟩
   ·intro L V H' O' hI hLi hsee
    have get:∀ j,seesB _ _ j=true→SMq b23 k bits (.slice vb vn vc) gs cs j (V j) H' O':=fun j h=>hI.sp j (hsee j h)
    conv=>whnf
    exact⟨⟨_,rfl⟩,_,rfl,hI.step (Sub.refl _) (by decide) (by decide) rfl⟩
   ·intro L V H' O' hI hLi hsee
    have get:∀ j,seesB _ _ j=true→SMq b23 k bits (.slice vb vn vc) gs cs j (V j) H' O':=fun j h=>hI.sp j (hsee j h)
    have h10:V 10=.int .i64 (k:Int):=get 10 (by kernel_rfl)
    conv=>whnf
    rw[h10]
    conv=>whnf
    exact⟨⟨_,rfl⟩,_,rfl,hI.step (Sub.refl _) (by decide) (by decide) ⟨_,rfl⟩⟩
   ·intro L V H' O' hI hLi hsee
    have get:∀ j,seesB _ _ j=true→SMq b23 k bits (.slice vb vn vc) gs cs j (V j) H' O':=fun j h=>hI.sp j (hsee j h)
    obtain⟨y11,h11⟩:isI (V 11):=get 11 (by kernel_rfl)
    conv=>whnf
    rw[h11]
    conv=>whnf
    exact⟨⟨_,rfl⟩,_,rfl,hI.step (Sub.refl _) (by decide) (by decide) ⟨_,rfl⟩⟩
   ·intro L V H' O' hI hLi hsee
    have get:∀ j,seesB _ _ j=true→SMq b23 k bits (.slice vb vn vc) gs cs j (V j) H' O':=fun j h=>hI.sp j (hsee j h)
    obtain⟨y12,h12⟩:isI (V 12):=get 12 (by kernel_rfl)
    conv=>whnf
    rw[h12]
    conv=>whnf
    exact⟨⟨_,rfl⟩,_,rfl,hI.step (Sub.refl _) (by decide) (by decide) ⟨_,rfl⟩⟩
   ·intro L V H' O' hI hLi hsee
    have get:∀ j,seesB _ _ j=true→SMq b23 k bits (.slice vb vn vc) gs cs j (V j) H' O':=fun j h=>hI.sp j (hsee j h)
    obtain⟨b9,h9,g9⟩:sl0 H' (V 9):=get 9 (by kernel_rfl)
    obtain⟨y13,h13⟩:isI (V 13):=get 13 (by kernel_rfl)
    conv=>whnf
    rw[h9]
    conv=>whnf
    rw[h13]
    conv=>whnf
    exact⟨⟨_,rfl⟩,_,rfl,hI.step (Sub.refl _) (by decide) (by decide) ⟨⟨13,[0],y13,0⟩,_,rfl,ints_c (l:=[0]) g9⟩⟩
   ·intro L V H' O' hI hLi hsee
    have get:∀ j,seesB _ _ j=true→SMq b23 k bits (.slice vb vn vc) gs cs j (V j) H' O':=fun j h=>hI.sp j (hsee j h)
    obtain⟨g8,w8,h8,q8⟩:gt4 H' (V 8):=get 8 (by kernel_rfl)
    obtain⟨wb8,wc8,rfl,_⟩:=id q8
    obtain⟨g14,w14,h14,q14⟩:gt4 H' (V 14):=get 14 (by kernel_rfl)
    obtain⟨wb14,wc14,rfl,_⟩:=id q14
    conv=>whnf
    rw[h8]
    conv=>whnf
    rw[h14]
    conv=>whnf
    intro b hb hO
    conv=>whnf
    have s:=sub_ins H' (.cells ⟨[[.int .i64 g8.kind,.slice wb8 g8.ws.length wc8,.int .i64 g8.bit,.int .i64 g8.cond],[.int .i64 g14.kind,.slice wb14 g14.ws.length wc14,.int .i64 g14.bit,.int .i64 g14.cond]].flatten⟩ 42 (0,0)) hb
    exact⟨⟨_,rfl⟩,_,rfl,hI.step s (by decide) (by decide) ⟨b,g8,g14,[_,_,_,_],[_,_,_,_],rfl,ins_same _ _ _,⟨_,rfl,q8.up s⟩,⟨_,rfl,q14.up s⟩⟩⟩
   ·intro L V H' O' hI hLi hsee
    have get:∀ j,seesB _ _ j=true→SMq b23 k bits (.slice vb vn vc) gs cs j (V j) H' O':=fun j h=>hI.sp j (hsee j h)
    have h1:V 1=.slice vb vn vc:=get 1 (by kernel_rfl)
    have hL1:L 1=true:=hsee 1 (by kernel_rfl)
    obtain⟨bn,g1,g2,c1,c2,h29,hbn,q1,q2⟩:G2 H' (V 15):=get 15 (by kernel_rfl)
    have h9:L 18=false:=by
     cases e:L 18 with
     | false=>rfl
     | true=>
      have:=hI.c32 e
      rw[hLi] at this
      cases this
    conv=>whnf
    rw[h1]
    conv=>whnf
    rw[h29]
    conv=>whnf
    obtain⟨w1,rfl,r1⟩:=q1
    obtain⟨w2,rfl,r2⟩:=q2
    have hw1:w1.oneCell'=true:=by obtain⟨_,_,rfl,_⟩:=r1;rfl
    have hw2:w2.oneCell'=true:=by obtain⟨_,_,rfl,_⟩:=r2;rfl
    refine append_many' (ys:=[[.int .i64 g1.kind,w1,.int .i64 g1.bit,.int .i64 g1.cond],[.int .i64 g2.kind,w2,.int .i64 g2.bit,.int .i64 g2.cond]]) (hI.own hLi) rfl (fun y hy=>?_) (fun v hv=>?_) ⟨_,_,rfl,(fun h=>by cases h),fun a ha _=>?_⟩ ?_ fun v' O1 hov hk=>?_
    ·simp only[List.mem_cons,List.not_mem_nil,or_false] at hy
     rcases hy with rfl | rfl<;>rfl
    ·simp only[List.flatten_cons,List.flatten_nil,List.cons_append,List.nil_append,List.append_nil,List.mem_cons,List.not_mem_nil,or_false] at hv
     rcases hv with rfl | rfl | rfl | rfl | rfl | rfl | rfl | rfl<;>first | rfl | assumption
    ·cases ha
     exact⟨rfl,rfl,_,_,_,.inl hbn,rfl⟩
    ·have:=hgb.2.2.1.1
     have:=hgb.2.2.2
     simp only[List.length_cons,List.length_nil]
     omega
    have hgc3:=((hgb.2.2.1.up hI.sub).snoc (g:=g1) ⟨w1,rfl,r1⟩).snoc (g:=g2) ⟨w2,rfl,r2⟩
    rw[List.append_assoc,List.append_assoc] at hgc3
    conv=>whnf
    refine⟨⟨_,rfl⟩,_,rfl,hI.sub,fun _=>hk _ _ (hI.old h9) (OwnS.neq (hI.own hLi) (hI.old h9) (by decide)),fun h=>by simp[setL] at h,fun q hq=>?_,fun _=>?_,fun h=>?_⟩
    ·by_cases e:16=q
     ·subst e
      exact⟨_,_,rfl,hov,hgc3⟩
     ·rw[setV_nq e]
      rw[setL_nq e] at hq
      exact (hI.sp q hq).o (Ne.symm e) fun e=>by rw[e,h9] at hq;cases hq
    ·rw[setL_nq (by decide),hL1]
    ·exact setL_aq
   ·intro L V H' O' hI hLi hsee
    have get:∀ j,seesB _ _ j=true→SMq b23 k bits (.slice vb vn vc) gs cs j (V j) H' O':=fun j h=>hI.sp j (hsee j h)
    conv=>whnf
    exact⟨⟨_,rfl⟩,_,rfl,hI.step (Sub.refl _) (by decide) (by decide) rfl⟩
   ·intro L V H' O' hI hLi hsee
    have get:∀ j,seesB _ _ j=true→SMq b23 k bits (.slice vb vn vc) gs cs j (V j) H' O':=fun j h=>hI.sp j (hsee j h)
    have h31:V 17=.pointer (some ⟨b23,2,none⟩):=get 17 (by kernel_rfl)
    obtain⟨gl',cs',hl3,hov,hgc3⟩:∃ gl' cs',gl'.length=2∧OwnS O' 4 42 (V 16) (cs++cs')∧GatesC H' (gs++gl') (cs++cs'):=get 16 (by kernel_rfl)
    have hL30:L 16=true:=hsee 16 (by kernel_rfl)
    obtain⟨_,_,_,h30⟩:=OwnS.sl hov
    rw[h30] at hov
    conv=>whnf
    rw[h31]
    conv=>whnf
    rw[h30]
    conv=>whnf
    refine⟨_,_,hI.old hLi,Nat.le_refl 3,?_⟩
    have hov2:=OwnS.other hov (o:=.cells ⟨[.int .i64 1,.int .i64 bits,V 16]⟩ 56 (0,0)) (hI.old hLi) (by decide)
    rw[h30] at hov2
    refine⟨⟨_,rfl⟩,_,rfl,hI.sub,fun h=>by simp[setL] at h,(fun h=>by rw[show setL L 18 16=L 16 from rfl,hL30] at h;cases h),fun q hq=>?_,fun _=>?_,fun h=>?_⟩
    ·by_cases e:18=q
     ·subst e
      exact⟨_,gl',cs',hl3,ins_same _ _ _,hov2,hgc3⟩
     ·rw[setV_nq e]
      rw[setL_nq e] at hq
      by_cases e7:q=16
      ·subst e7
       refine⟨gl',cs',hl3,?_,hgc3⟩
       rw[h30]
       exact hov2
      ·exact (hI.sp q hq).o e7 (Ne.symm e)
    ·rw[setL_nq (by decide)]
     exact hI.c30 hL30
    ·rw[setL_nq (by decide)]
     exact hL30
   ·have s57:=hI.sub
    clear hI hall
    conv=>whnf
    rw[← hKR]
    clear hKR KR
    conv=>whnf
    have hgb2:GB b23 (k+1) bits v1 (gs++gl') (cs++cs') H' O':=⟨hO7,hov,hgc,by rw[List.length_append,hl2,hgb.2.2.2];omega⟩
    replace gs0:=gs0.trans s57
    replace hG:=GlobH.up hG s57
    replace hms:=MatsH.up hms s57
    clear hO7 hov hgc hgb
    obtain⟨m1,hrd1,hm1⟩:=hms.rdI (i:=1) (by omega)
    have hq1:=hsq _ (List.getElem_mem (show 1 < ms.length by omega))
    generalize (ms[1]'(by omega))=M1 at hm1 hq1
    have hq18:=hq1.2.1
    obtain⟨mb1,mc1,rfl⟩:=MatH.sl hm1
    refine W_draw (pol:=polDs) Γok mixes [(0,.pendO),(1,.pendO),(2,.pendO),(3,.pendO),(4,.lock),(5,.pendO)] 425 (by kernel_rfl) rfl ?_
    conv=>whnf
    refine⟨_,⟨rfl,rfl,_,_,_,.inr hgb2.1,rfl⟩,?_⟩
    conv=>whnf
    refine⟨_,hrd1 _ _ (Sub.refl _),?_⟩
    conv=>whnf
    refine (e5o (by omega) (by omega) hG hgb2 hm1).mono fun r H801 O801 s801 hr=>?_
    obtain⟨rfl,o801⟩:=hr
    conv=>whnf
    refine⟨(k+1,_,O801,v1,gs++gl',cs++cs',bits),⟨ki,gs0.trans s801,hgb2.up s801 o801⟩,by dsimp only;omega,?_⟩
    refine⟨rfl,rfl,?_⟩
    conv=>whnf
    repeat (refine⟨rfl,?_⟩;conv=>whnf)
    refine⟨by show En.v (.int .i64 (IntKind.i64.wrap (k+1)))=_;rw[wrap_id (by omega) (by omega)];rfl,?_⟩
    conv=>whnf
    repeat (refine⟨rfl,?_⟩;conv=>whnf)
    exact trivial
  have ke:k=10:=by
   have:=of_decide_eq_false kc
   omega
  clear kc k1
  subst ke
  conv=>whnf
  rw[← hKg]
  clear hKg Kg
  replace hG:=hG.up gs0
  replace hms:=MatsH.up hms gs0
  clear hgb
  conv=>whnf
  refine W_hide fun Kn hKn=>?_
  refine W_loop (pol:=polDs) Γok (Nat × PH × PH) (fun z=>z.1≤19∧Sub gH z.2.1) (fun z=>19 - z.1) (fun z=>[(345,.v (.int .i64 z.1))]) (fun _=>[]) (fun z=>z.2.1) (fun z=>z.2.2) ⟨(0,gH,_),⟨by simp,Sub.refl _⟩,rfl,rfl,?_⟩ ?_
  ·conv=>whnf
   repeat (refine⟨rfl,?_⟩;conv=>whnf)
   exact trivial
  rintro ⟨n,nH,nO⟩ ⟨n1,ns⟩
  dsimp only at n1 ns
  conv=>whnf
  refine if_intro (fun nc=>?_) (fun nc=>?_)
  ·have ni:n < 19:=by
    have:=of_decide_eq_true nc
    omega
   clear nc n1
   replace hG:=hG.up ns
   replace hms:=MatsH.up hms ns
   conv=>whnf
   refine dec_intro (by omega) ?_
   conv=>whnf
   refine dec_intro (by dsimp only;omega) ?_
   conv=>whnf
   refine dec_intro (by dsimp only;omega) ?_
   conv=>whnf
   intro bd hbd kbd
   conv=>whnf
   obtain⟨w,hw,hwn⟩:∃ w:Nat,IntKind.i64.wrap ((n:Int) - IntKind.i64.wrap ((n:Int).tdiv 18))=(w:Int)∧w≤19:=⟨_,quo18 n ni,by omega⟩
   refine W_hide fun Kz hKz=>?_
   refine W_loop (pol:=polDs) Γok (Nat × List Nat × PH) (fun z=>z.1≤n∧HalfM z.2.2 bd n w z.2.1 (List.replicate z.1 (zeros w))∧z.2.1.length=z.1) (fun z=>n - z.1) (fun z=>[(352,.v (.int .i64 z.1))]) (fun _=>[]) (fun _=>nH) (fun z=>z.2.2) ⟨(0,[],_),⟨by simp,HalfM.start bd n w _,rfl⟩,rfl,rfl,?_⟩ ?_
   ·conv=>whnf
    repeat (refine⟨rfl,?_⟩;conv=>whnf)
    exact trivial
   rintro ⟨k,bs,zO⟩ ⟨k1,g,hbl⟩
   dsimp only at k1 g hbl
   conv=>whnf
   refine if_intro (fun kc=>?_) (fun kc=>?_)
   ·have ki:k < n:=by
     have:=of_decide_eq_true kc
     dsimp only at this
     simp only[Int.toNat_natCast] at this
     omega
    clear kc k1
    conv=>whnf
    rw[show IntKind.i64.wrap ((((n,nH,nO):Nat × PH × PH).1:Int) - IntKind.i64.wrap ((((n,nH,nO):Nat × PH × PH).1:Int).tdiv 18))=(w:Int) from hw]
    refine dec_intro (by omega) ?_
    conv=>whnf
    refine dec_intro (by omega) ?_
    conv=>whnf
    refine dec_intro (by omega) ?_
    conv=>whnf
    intro b hb hO
    conv=>whnf
    refine dec_intro (by omega) ?_
    conv=>whnf
    obtain⟨cs,q1,q2,g2⟩:=g.row hbl.symm ki hO
    rw[← List.replicate_succ'] at g2
    refine⟨cs,_,q1,q2,?_⟩
    conv=>whnf
    refine⟨(k+1,bs++[b],_),⟨ki,g2,by rw[List.length_append,hbl];rfl⟩,by dsimp only;omega,?_⟩
    refine⟨rfl,rfl,?_⟩
    conv=>whnf
    repeat (refine⟨rfl,?_⟩;conv=>whnf)
    refine⟨by show En.v (.int .i64 (IntKind.i64.wrap (k+1)))=_;rw[wrap_id (by omega) (by omega)];rfl,?_⟩
    conv=>whnf
    repeat (refine⟨rfl,?_⟩;conv=>whnf)
    exact trivial
   have ke:k=n:=by
    have:=of_decide_eq_false kc
    dsimp only at this
    simp only[Int.toNat_natCast] at this
    omega
   clear kc k1
   rw[ke] at g hbl
   conv=>whnf
   rw[← hKz]
   clear hKz Kz
   conv=>whnf
   refine W_pre fun hd=>⟨_,_,.all hd,?_⟩
   have hm:=OwnM.share hd (g.own (by simp))
   have su:=un_left nH zO
   replace hG:=hG.up su
   replace ns:=ns.trans su
   clear g hms
   generalize un nH zO=H850 at hm su hG ns ⊢
   refine W_draw (pol:=polDs) Γok mixes [(0,.pendO),(1,.pendO),(2,.lock),(3,.pendO),(4,.pendO),(5,.pendO),(6,.pendO),(7,.pendO),(8,.pendO),(9,.pendO),(10,.pendO),(12,.pendO),(13,.pendO),(14,.pendO),(15,.pendO),(11,.lock),(16,.lock),(17,.pendO),(18,.pendO)] 425 (by kernel_rfl) rfl ?_
   conv=>whnf
   refine (e6 (List.replicate n (zeros w)) (List.replicate n (zeros w)) (by simp;omega) (by simp;omega) _ _ _ hG hm hm).val fun H851 s851=>?_
   have t851:=s851
   replace hG:=GlobH.up hG t851
   replace ns:=Sub.trans ns t851
   conv=>whnf
   refine⟨_,Rd_up hG.1 (Sub.refl _),?_⟩
   conv=>whnf
   refine⟨_,Rd_up hG.1 (Sub.refl _),?_⟩
   conv=>whnf
   obtain⟨N,hN,hNn⟩:∃ N:Nat,IntKind.i64.wrap (IntKind.i64.wrap (4*(n:Int)) - IntKind.i64.wrap ((IntKind.i64.wrap (4*(n:Int))).tdiv 18))=(N:Int)∧N≤76:=⟨_,quo72 n ni,by omega⟩
   rw[show IntKind.i64.wrap (IntKind.i64.wrap (4*(((n,nH,nO):Nat × PH × PH).1:Int)) - IntKind.i64.wrap ((IntKind.i64.wrap (4*(((n,nH,nO):Nat × PH × PH).1:Int))).tdiv 18))=(N:Int) from hN]
   refine dec_intro (by omega) ?_
   conv=>whnf
   refine dec_intro (by omega) ?_
   conv=>whnf
   refine dec_intro (by omega) ?_
   conv=>whnf
   intro bn hbn kbn
   conv=>whnf
   refine Cl.publish bn (.cells ⟨cellsN (zeros N)⟩ 25 (0,0)) ((ins_same _ _ _).trans (congrArg (fun c=>some (Obj.cells ⟨c⟩ 25 (0,0))) (by rw[Int.toNat_natCast];exact zeros_flat N))) ?_
   generalize del _ _=On
   have sb:=sub_ins _ (.cells ⟨cellsN (zeros N)⟩ 25 (0,0)) hbn
   replace hG:=hG.up sb
   replace ns:=ns.trans sb
   have hxn:NumH (PH.ins H851 bn (.cells ⟨cellsN (zeros N)⟩ 25 (0,0))) (.slice (some ⟨bn,0,none⟩) N N) (zeros N):=num_sl (ins_same _ bn _) (by simp[zeros])
   refine (e3 (zeros N) [] [] (nu 1 2) (nu 1 2) (IntKind.i64.wrap ((n:Int) - 9)) (by rw[wrap_id (by omega) (by omega)];omega) (by simp[zeros];omega) (by simp) (by simp) _ _ _ _ hG hxn (nilM _) (nilM _)).val fun H852 s852=>?_
   have t852:=s852
   replace hG:=GlobH.up hG t852
   replace ns:=Sub.trans ns t852
   conv=>whnf
   refine⟨(n+1,_,On),⟨ni,ns⟩,by dsimp only;omega,?_⟩
   refine⟨rfl,rfl,?_⟩
   conv=>whnf
   repeat (refine⟨rfl,?_⟩;conv=>whnf)
   refine⟨by show En.v (.int .i64 (IntKind.i64.wrap (n+1)))=_;rw[wrap_id (by omega) (by omega)];rfl,?_⟩
   conv=>whnf
   repeat (refine⟨rfl,?_⟩;conv=>whnf)
   exact trivial
  have ne:n=19:=by
   have:=of_decide_eq_false nc
   omega
  clear nc n1
  subst ne
  conv=>whnf
  rw[← hKn]
  clear hKn Kn
  replace hG:=hG.up ns
  replace hms:=MatsH.up hms ns
  conv=>whnf
  intro b6 hb6 kb6
  conv=>whnf
  have s6:Sub nH (PH.ins nH b6 (.cells ⟨([-9223372036854775808,-1,0,1,2,9223372036854775807]:List Int).map fun x=>.int .i64 x⟩ 3 (0,0))):=sub_ins nH _ hb6
  replace hG:=hG.up s6
  replace hms:=MatsH.up hms s6
  refine W_hide fun Ky hKy=>?_
  refine W_loop (pol:=polDs) Γok (Nat × PH × PH) (fun z=>z.1≤6∧Sub (PH.ins nH b6 (.cells ⟨([-9223372036854775808,-1,0,1,2,9223372036854775807]:List Int).map fun x=>.int .i64 x⟩ 3 (0,0))) z.2.1) (fun z=>6 - z.1) (fun z=>[(386,.v (.int .i64 z.1))]) (fun _=>[]) (fun z=>z.2.1) (fun z=>z.2.2) ⟨(0,(PH.ins nH b6 (.cells ⟨([-9223372036854775808,-1,0,1,2,9223372036854775807]:List Int).map fun x=>.int .i64 x⟩ 3 (0,0))),_),⟨by simp,Sub.refl _⟩,rfl,rfl,?_⟩ ?_
  ·conv=>whnf
   repeat (refine⟨rfl,?_⟩;conv=>whnf)
   exact trivial
  rintro ⟨y,yH,yO⟩ ⟨y1,ys⟩
  dsimp only at y1 ys
  conv=>whnf
  refine if_intro (fun yc=>?_) (fun yc=>?_)
  ·have yi:y < 6:=by
    have:=of_decide_eq_true yc
    omega
   clear yc y1
   replace hG:=hG.up ys
   replace hms:=MatsH.up hms ys
   obtain⟨v0,hrd0,hm0⟩:=hms.rdI (i:=0) (by omega)
   obtain⟨v1,hrd1,hm1⟩:=hms.rdI (i:=1) (by omega)
   have hq0:=hsq _ (List.getElem_mem (show 0 < ms.length by omega))
   have hq1:=hsq _ (List.getElem_mem (show 1 < ms.length by omega))
   generalize (ms[0]'(by omega))=M0 at hm0 hq0
   generalize (ms[1]'(by omega))=M1 at hm1 hq1
   have hq08:=hq0.2.1
   have hq18:=hq1.2.1
   obtain⟨mb0,mc0,rfl⟩:=MatH.sl hm0
   obtain⟨mb1,mc1,rfl⟩:=MatH.sl hm1
   have hz:=Sub.refl yH
   conv=>whnf
   refine dec_intro (by dsimp only;omega) ?_
   conv=>whnf
   refine at_intsB (L:=[-9223372036854775808,-1,0,1,2,9223372036854775807]) (i:=y) yi fun x hx=>?_
   have hxb:-9223372036854775808≤x∧x < 9223372036854775808:=by
    simp only[List.mem_cons,List.not_mem_nil,or_false] at hx
    omega
   conv=>whnf
   refine W_draw (pol:=polDs) Γok mixes [(0,.pend),(1,.pend),(2,.pend),(3,.pendO),(6,.pend),(4,.lock),(5,.lock),(7,.lock),(8,.pendO),(9,.pendO),(10,.pend),(11,.pend),(12,.pend),(13,.pendO),(16,.pend),(14,.lock),(15,.lock),(17,.lock),(18,.pendO),(19,.pendO),(20,.pendO),(21,.pendO),(22,.pendO),(23,.pendO),(24,.pendO),(25,.pendO),(26,.pendO),(27,.pendO),(28,.pendO),(29,.pendO),(30,.lock),(31,.pendO),(32,.pendO)] 425 (by kernel_rfl) rfl ?_
   conv=>whnf
   refine⟨_,hrd1 _ _ hz,?_⟩
   conv=>whnf
   intro b901 hb901 kb901
   conv=>whnf
   refine (e51 1 _ [x] _ (ints_c (l:=[x]) (ins_same _ _ _))).val fun H902 s902=>?_
   have t902:=((sub_ins _ _ hb901).trans s902)
   replace hG:=GlobH.up hG t902
   replace hm0:=MatH.up hm0 t902
   replace hm1:=MatH.up hm1 t902
   replace hz:=Sub.trans hz t902
   replace ys:=Sub.trans ys t902
   have ib901:=ints_c (l:=[x]) (s902 _ _ (ins_same _ _ _))
   conv=>whnf
   refine (e4 M1 ⟨1,[x],0,0⟩ _ _ (by omega) (by simp) _ _ _ hG hm1 ib901).val fun H903 s903=>?_
   have t903:=s903
   replace hG:=GlobH.up hG t903
   replace hm0:=MatH.up hm0 t903
   replace hm1:=MatH.up hm1 t903
   replace hz:=Sub.trans hz t903
   replace ys:=Sub.trans ys t903
   replace ib901:=IntsC.up ib901 t903
   conv=>whnf
   refine⟨_,hrd1 _ _ hz,?_⟩
   conv=>whnf
   intro b904 hb904 kb904
   conv=>whnf
   refine (e51 x _ [0] _ (ints_c (l:=[0]) (ins_same _ _ _))).val fun H905 s905=>?_
   have t905:=((sub_ins _ _ hb904).trans s905)
   replace hG:=GlobH.up hG t905
   replace hm0:=MatH.up hm0 t905
   replace hm1:=MatH.up hm1 t905
   replace hz:=Sub.trans hz t905
   replace ys:=Sub.trans ys t905
   have ib904:=ints_c (l:=[0]) (s905 _ _ (ins_same _ _ _))
   conv=>whnf
   refine (e4 M1 ⟨x,[0],0,0⟩ _ _ (by omega) (by simp) _ _ _ hG hm1 ib904).val fun H906 s906=>?_
   have t906:=s906
   replace hG:=GlobH.up hG t906
   replace hm0:=MatH.up hm0 t906
   replace hm1:=MatH.up hm1 t906
   replace hz:=Sub.trans hz t906
   replace ys:=Sub.trans ys t906
   replace ib904:=IntsC.up ib904 t906
   conv=>whnf
   refine⟨_,hrd0 _ _ hz,?_⟩
   conv=>whnf
   refine⟨_,hrd1 _ _ hz,?_⟩
   conv=>whnf
   refine⟨_,Rd_up hG.1 (Sub.refl _),?_⟩
   conv=>whnf
   refine⟨_,Rd_up hG.1 (Sub.refl _),?_⟩
   conv=>whnf
   refine (e3 [] M0 M1 (nu 1 2) (nu 1 2) x hxb (by simp) (by omega) (by omega) _ _ _ _ hG (num_nil _) hm0 hm1).val fun H907 s907=>?_
   have t907:=s907
   replace hG:=GlobH.up hG t907
   replace hm0:=MatH.up hm0 t907
   replace hm1:=MatH.up hm1 t907
   replace hz:=Sub.trans hz t907
   replace ys:=Sub.trans ys t907
   conv=>whnf
   refine⟨(y+1,_,yO),⟨yi,ys⟩,by dsimp only;omega,?_⟩
   refine⟨rfl,rfl,?_⟩
   conv=>whnf
   repeat (refine⟨rfl,?_⟩;conv=>whnf)
   refine⟨by show En.v (.int .i64 (IntKind.i64.wrap (y+1)))=_;rw[wrap_id (by omega) (by omega)];rfl,?_⟩
   conv=>whnf
   repeat (refine⟨rfl,?_⟩;conv=>whnf)
   exact trivial
  have ye:y=6:=by
   have:=of_decide_eq_false yc
   omega
  clear yc y1
  subst ye
  conv=>whnf
  rw[← hKy]
  clear hKy Ky
  replace hG:=hG.up ys
  conv=>whnf
  refine (e9 _ hG).val fun H999 s999=>?_
  conv=>whnf
end Go.Proofs.YtodmckckapmmoaaGreatDoor
