/- A logic for code of the model, proved sound, and what functions do that the laws on matrices come to; nothing is asked. Part 5. -/
import Derived.Test.YtmhnalikebkhjaaGreatDoorM4
import Derived.Shelf.Spec.SlicesInsertGrow

set_option linter.unusedVariables false
set_option linter.unusedSimpArgs false
set_option linter.unnecessarySimpa false

namespace Go.Proofs.YtmhnalikebkhjaaGreatDoor
open Go.Proofs.YtmhnalikebkhjaaGreatDoor.X Go.Proofs.YtmhnalikebkhjaaGreatDoor.X.PH
set_option maxRecDepth 100000
theorem newH_sub (H0 H : PH):Sub (newH H0 H) H:=fun n o hn=>by
  unfold newH at hn
  cases e:H0 n with
  | some _=>rw[e] at hn;cases hn
  | none=>rw[e] at hn;exact hn
theorem MatN.mat {H0 H : PH} {v:Value} {m:Mx} (h:MatN H0 H v m):MatH H v m:=by
  obtain⟨a,b,h1,h2,h3⟩:=h
  have:=OwnM.share (H:=emp) (fun n=>.inl rfl) h3
  exact this.up fun n o hn=>by
    have:newH H0 H n=some o:=by simpa[un,emp] using hn
    exact newH_sub _ _ n o this
def NumN (H0 H : PH) (v:Value) (l:List (P4 × Int)):Prop:=∃ b,v=.slice (some ⟨b,0,none⟩) l.length l.length∧H0 b=none∧H b=some (.cells ⟨cellsN l⟩ 32 (0,0))
theorem NumN.up {H0 H H' : PH} {v:Value} {l:List (P4 × Int)} (k:NumN H0 H v l) (hs:Sub H H'):NumN H0 H' v l:=by
  obtain⟨b0,h1,h2,h3⟩:=k
  exact⟨b0,h1,h2,hs _ _ h3⟩
theorem fresh_of {H0 H : PH} (hS:Sub H0 H) {b:Nat} (hb:H b=none):H0 b=none:=by
  cases e:H0 b with
  | none=>rfl
  | some o=>rw[hS _ _ e] at hb;cases hb
theorem numN_new {H0 H : PH} (hS:Sub H0 H) {b:Nat} (hb:H b=none) {l:List (P4 × Int)} {c:List Value} (hc:c=cellsN l) {n:Nat} (hn:n=l.length):NumN H0 (ins H b (.cells ⟨c⟩ 32 (0,0))) (.slice (some ⟨b,0,none⟩) n n) l:=by
  subst hc hn
  exact⟨b,rfl,fresh_of hS hb,ins_same _ _ _⟩
theorem mat2N {H0 H : PH} (hS:Sub H0 H) {b:Nat} (hb:H b=none) {u1 u2:Value} {r1 r2:List (P4 × Int)} (h1:NumN H0 H u1 r1) (h2:NumN H0 H u2 r2) (l1:r1.length=2) (l2:r2.length=2) (hne:cellsN r1 ≠ cellsN r2) :
    MatN H0 (ins H b (.cells ⟨[u1,u2]⟩ 25 (0,0))) (.slice (some ⟨b,0,none⟩) 2 2) [r1,r2]:=by
  obtain⟨b1,rfl,f1,k1⟩:=h1
  obtain⟨b2,rfl,f2,k2⟩:=h2
  have n12:b1 ≠ b2:=fun e=>by
    subst e
    rw[k1] at k2
    injection k2 with k2
    injection k2 with k2
    injection k2 with k2
    exact hne k2
  have n1:b1 ≠ b:=fun e=>by subst e;rw[hb] at k1;cases k1
  have n2:b2 ≠ b:=fun e=>by subst e;rw[hb] at k2;cases k2
  rw[l1,l2]
  refine⟨2,2,by decide,by decide,rfl,fun i r hr=>?_,[b1,b2],b,⟨rfl,by simp[n12],fun i c r hc hr=>?_⟩,by simp[n1.symm,n2.symm],rfl,newH_some (fresh_of hS hb) (ins_same _ _ _)⟩
  · match i,hr with
    | 0,hr=>cases hr;exact l1
    | 1,hr=>cases hr;exact l2
  · match i,hc,hr with
    | 0,hc,hr=>cases hc;cases hr;exact newH_some f1 ((ins_ne _ _ n1).trans k1)
    | 1,hc,hr=>cases hc;cases hr;exact newH_some f2 ((ins_ne _ _ n2).trans k2)
def vInts (l : List Value):List Int:=l.map fun
  | .int _ n=>n
  | _=>0
def Sp.holdsN (H0 H : PH) (v:Value):Sp→Prop
  | .skip=>True
  | .val _=>True
  | .nums l=>NumN H0 H v l
  | .mat m=>MatN H0 H v m
theorem Sp.upN {H0 H H' : PH} {v:Value} {s:Sp} (hs:Sub H H') (h:s.holdsN H0 H v):s.holdsN H0 H' v:=by
  cases s with
  | skip=>exact trivial
  | val x=>exact trivial
  | nums l=>exact NumN.up h hs
  | mat m=>exact MatN.up h hs
def IOn (H0 : PH) (L:Nat→Bool) (V:Nat→Value) (H O:PH):Prop:=IO L V H O∧Sub H0 H∧∀ (i:Nat) s,spO[i]?=some s→L i=true→s.holdsN H0 H (V i)
theorem holdsN_set {H0 : PH} {L:Nat→Bool} {V:Nat→Value} {H H2:PH} {i:Nat} {v:Value} {s:Sp} (hI:∀ (i:Nat) s,spO[i]?=some s→L i=true→s.holdsN H0 H (V i)) (hs:Sub H H2) (hsp:spO[i]?=some s) (hv:s.holdsN H0 H2 v) :
    ∀ (j:Nat) s,spO[j]?=some s→setL L i j=true→s.holdsN H0 H2 (setV V i v j):=by
  intro j s' hj hL
  by_cases e:j=i
  · subst e
    rw[hsp] at hj
    cases hj
    rw[setV_same]
    exact hv
  · rw[setL_ne L e] at hL
    rw[setV_ne V v e]
    exact Sp.upN hs (hI j s' hj hL)
theorem IOn_step {H0 : PH} {L:Nat→Bool} {V:Nat→Value} {H O H2:PH} {i:Nat} {v:Value} {s:Sp} (hI:IOn H0 L V H O) (hLi:L i=false) (hs:Sub H H2) (hsp:spO[i]?=some s) (hv:s.holds H2 v) (hvn:s.holdsN H0 H2 v)
    (hn:i ≠ 0∧i ≠ 65∧i ≠ 66∧∀ x∈tabO,x.2.1 ≠ i):IOn H0 (setL L i) (setV V i v) H2 O:=
  ⟨IO_step hI.1 hLi hs hsp hv hn,hI.2.1.trans hs,holdsN_set hI.2.2 hs hsp hvn⟩
theorem IOn_map {H0 : PH} {L:Nat→Bool} {V:Nat→Value} {H O:PH} {b:Nat} (hI:IOn H0 L V H O) (hL:L 0=false):IOn H0 (setL L 0) (setV V 0 (.map (some b))) H (ins O b (.map #[] 0)):=
  ⟨IO_map hI.1 hL,hI.2.1,holdsN_set hI.2.2 (Sub.refl _) (s:=.skip) rfl trivial⟩
theorem skipO : ∀ y∈tabO,spO[y.2.1]?=some .skip:=by
  intro y hy
  simp only[tabO,List.mem_cons,List.not_mem_nil,or_false] at hy
  rcases hy with rfl | rfl | rfl | rfl | rfl | rfl | rfl | rfl | rfl | rfl | rfl | rfl
  all_goals rfl
theorem IOn_ins {H0 : PH} {L:Nat→Bool} {V:Nat→Value} {H O:PH} {x:Nat × Nat × Nat} (hx:x∈tabO) {b:Nat} {es:List MapEntry} {clk:Nat} (hI:IOn H0 L V H O) (hL:L x.2.1=false) (hsrc:L x.2.2=true) (h0:L 0=true)
    (hV0:V 0=.map (some b)) (hO:O b=some (.map ⟨es⟩ clk)) {u:Value} (hu:V x.2.2=u):IOn H0 (setL L x.2.1) (setV V x.2.1 undef) H (ins O b (.map ((⟨es⟩:Array MapEntry).push { key:=.int .i64 x.1,val:=u,born:=clk }) (clk+1))):=
  ⟨IO_ins hx hI.1 hL hsrc h0 hV0 hO hu,hI.2.1,holdsN_set hI.2.2 (Sub.refl _) (s:=.skip) (skipO x hx) trivial⟩
theorem IOn_same {H0 : PH} {L:Nat→Bool} {V:Nat→Value} {H O:PH} {i:Nat} {v:Value} (hI:IOn H0 L V H O) (hLi:L i=false) (h0:L 0=true) (hi:i=65∨i=66) (hv:∀ b,V 0=.map (some b)→v=.map (some b)):IOn H0 (setL L i) (setV V i v) H O:=
  ⟨IO_same hI.1 hLi h0 hi hv,hI.2.1,holdsN_set hI.2.2 (Sub.refl _) (s:=.skip) (by rcases hi with rfl | rfl<;>rfl) trivial⟩
def OpsN (H0 H : PH) (r:Value):Prop:=∃ b es clk,r=.map (some b)∧H b=some (.map ⟨es⟩ clk)∧(∀ k,1≤k→k≤12→∃ j u,Instr.findNow (.int .i64) (.int .i64 (k:Nat)) es 0=some (some (j,u))∧MatN H0 H u (opM k))∧∀ n:Int,n < 1∨12 < n→Instr.findNow (.int .i64) (.int .i64 n) es 0=some none
theorem c75n (H : PH):Cl Tryz.prog 178 [] H emp fun r H' _=>OpsN H H' r:=by
  refine Cl.repart (Q:=fun r H' M'=>∃ b es clk,r=.map (some b)∧M' b=some (.map ⟨es⟩ clk)∧(∀ k,1≤k→k≤12→∃ j u,Instr.findNow (.int .i64) (.int .i64 (k:Nat)) es 0=some (some (j,u))∧MatN H H' u (opM k))∧∀ n:Int,n < 1∨12 < n→Instr.findNow (.int .i64) (.int .i64 n) es 0=some none) ?_ fun r H' M' _ hd ⟨b,es,clk,h1,h2,h3,h4⟩=>⟨_,_,.one hd h2,b,es,clk,h1,ins_same _ _ _,fun k k1 k2=>by
    obtain⟨j,u,h5,h6⟩:=h3 k k1 k2
    exact⟨j,u,h5,h6.up (sub_ins _ _ ((hd b).resolve_right (by rw[h2];simp)))⟩,h4⟩
  refine Cl_of (pol:=polO) Γok Tryz.func178 (by kernel_rfl) rfl ?_
  conv=>whnf
  refine (c140 1 _).val fun H1 s1=>?_
  conv=>whnf
  intro b2
  conv=>whnf
  refine (c141 rootN _).val fun H2 s2=>?_
  conv=>whnf
  intro b4
  conv=>whnf
  refine W_free (pol:=polO) Γok mixes 69 (by kernel_rfl) rfl (IOn H) ⟨⟨fun i s _ h=>(by cases h),fun x _ h=>(by cases h),fun h=>(by cases h),fun _=>⟨fun _ _=>rfl,rfl,rfl⟩⟩,s1.trans s2,fun i s _ h=>(by cases h)⟩ ?_ ?_
  · intro i o ho L V H' O' hI hLi hsee
    have hi:i < 67:=(List.getElem?_eq_some_iff.1 ho).1
    have get:∀ (j:Nat) s,spO[j]?=some s→seesB _ o j=true→s.holds H' (V j):=fun j s hj h=>hI.1.1 j s hj (hsee j h)
    obtain rfl | rfl | rfl | rfl | rfl | rfl | rfl | rfl | rfl | rfl | rfl | rfl | rfl | rfl | rfl | rfl | rfl | rfl | rfl | rfl | rfl | rfl | rfl | rfl | rfl | rfl | rfl | rfl | rfl | rfl | rfl | rfl | rfl | rfl | rfl | rfl | rfl | rfl | rfl | rfl | rfl | rfl | rfl | rfl | rfl | rfl | rfl | rfl | rfl | rfl | rfl | rfl | rfl | rfl | rfl | rfl | rfl | rfl | rfl | rfl | rfl | rfl | rfl | rfl | rfl | rfl | rfl:i=0∨i=1∨i=2∨i=3∨i=4∨i=5∨i=6∨i=7∨i=8∨i=9∨i=10∨i=11∨i=12∨i=13∨i=14∨i=15∨i=16∨i=17∨i=18∨i=19∨i=20∨i=21∨i=22∨i=23∨i=24∨i=25∨i=26∨i=27∨i=28∨i=29∨i=30∨i=31∨i=32∨i=33∨i=34∨i=35∨i=36∨i=37∨i=38∨i=39∨i=40∨i=41∨i=42∨i=43∨i=44∨i=45∨i=46∨i=47∨i=48∨i=49∨i=50∨i=51∨i=52∨i=53∨i=54∨i=55∨i=56∨i=57∨i=58∨i=59∨i=60∨i=61∨i=62∨i=63∨i=64∨i=65∨i=66:=by omega
    ·
      cases ho
      conv=>whnf
      intro b hb hO
      exact⟨⟨_,rfl⟩,_,rfl,IOn_map hI hLi⟩
    ·
      cases ho
      conv=>whnf
      refine (c133m tX 2 (by decide) (by decide) _ (.func 188) #[] #[] (fun k hk=>⟨188,[],[],rfl,fun H4 _=>c142b k hk H4⟩)).use fun u H3 s3 hq=>?_
      obtain⟨_,hq⟩:=hq
      conv=>whnf
      exact⟨⟨_,rfl⟩,_,rfl,IOn_step hI hLi s3 rfl hq.mat (hq.base hI.2.1) (by decide)⟩
    ·
      cases ho
      have h0:=hsee 0 (by kernel_rfl)
      have hs:=hsee 1 (by kernel_rfl)
      obtain⟨b,es,clk,hV0,hO,hF,_⟩:=hI.1.2.2.1 h0
      conv=>whnf
      unfold enterK
      refine⟨.i64,1,b,⟨es⟩,clk,rfl,hV0,hO,(hF 1 0).1 (keyVal_none (x:=(1,2,1)) (by decide) hLi),?_⟩
      conv=>whnf
      exact⟨⟨_,rfl⟩,_,rfl,IOn_ins (x:=(1,2,1)) (by decide) hI hLi hs h0 hV0 hO rfl⟩
    ·
      cases ho
      conv=>whnf
      exact⟨⟨_,rfl⟩,_,rfl,IOn_step hI hLi (Sub.refl _) rfl rfl trivial (by decide)⟩
    ·
      cases ho
      conv=>whnf
      exact⟨⟨_,rfl⟩,_,rfl,IOn_step hI hLi (Sub.refl _) rfl rfl trivial (by decide)⟩
    ·
      cases ho
      have h:=get 4 _ rfl (by kernel_rfl)
      change V 4=_ at h
      conv=>whnf
      rw[h]
      conv=>whnf
      refine (c54 6 _).val fun H3 s3=>?_
      conv=>whnf
      exact⟨⟨_,rfl⟩,_,rfl,IOn_step hI hLi s3 rfl rfl trivial (by decide)⟩
    ·
      cases ho
      conv=>whnf
      have h3:=get 3 _ rfl (by kernel_rfl)
      change V 3=_ at h3
      have h5:=get 5 _ rfl (by kernel_rfl)
      change V 5=_ at h5
      rw[h3]
      conv=>whnf
      rw[h5]
      conv=>whnf
      intro b hb hO
      conv=>whnf
      exact⟨⟨_,rfl⟩,_,rfl,IOn_step hI hLi (sub_ins _ _ hb) rfl (pair_num (ins_same _ _ _)) (numN_new hI.2.1 hb rfl rfl) (by decide)⟩
    ·
      cases ho
      conv=>whnf
      exact⟨⟨_,rfl⟩,_,rfl,IOn_step hI hLi (Sub.refl _) rfl rfl trivial (by decide)⟩
    ·
      cases ho
      have h:=get 7 _ rfl (by kernel_rfl)
      change V 7=_ at h
      conv=>whnf
      rw[h]
      conv=>whnf
      refine (c54 2 _).val fun H3 s3=>?_
      conv=>whnf
      exact⟨⟨_,rfl⟩,_,rfl,IOn_step hI hLi s3 rfl rfl trivial (by decide)⟩
    ·
      cases ho
      conv=>whnf
      exact⟨⟨_,rfl⟩,_,rfl,IOn_step hI hLi (Sub.refl _) rfl rfl trivial (by decide)⟩
    ·
      cases ho
      conv=>whnf
      have h8:=get 8 _ rfl (by kernel_rfl)
      change V 8=_ at h8
      have h9:=get 9 _ rfl (by kernel_rfl)
      change V 9=_ at h9
      rw[h8]
      conv=>whnf
      rw[h9]
      conv=>whnf
      intro b hb hO
      conv=>whnf
      exact⟨⟨_,rfl⟩,_,rfl,IOn_step hI hLi (sub_ins _ _ hb) rfl (pair_num (ins_same _ _ _)) (numN_new hI.2.1 hb rfl rfl) (by decide)⟩
    ·
      cases ho
      have h6:=get 6 _ rfl (by kernel_rfl)
      change NumH _ (V 6) _ at h6
      obtain⟨base6,cap6,e6,_⟩:=id h6
      have h10:=get 10 _ rfl (by kernel_rfl)
      change NumH _ (V 10) _ at h10
      obtain⟨base10,cap10,e10,_⟩:=id h10
      conv=>whnf
      rw[e6]
      conv=>whnf
      rw[e10]
      conv=>whnf
      intro b hb hO
      conv=>whnf
      have f6:=h6
      rw[e6] at f6
      have f10:=h10
      rw[e10] at f10
      refine⟨⟨_,rfl⟩,_,rfl,IOn_step hI hLi (sub_ins _ _ hb) rfl (mat2 (ins_same _ _ _) ?_ ?_) ?_ (by decide)⟩
      · exact f6.up (sub_ins _ _ hb)
      · exact f10.up (sub_ins _ _ hb)
      · have g6:=hI.2.2 6 _ rfl (hsee 6 (by kernel_rfl))
        change NumN _ _ (V 6) _ at g6
        rw[e6] at g6
        have g10:=hI.2.2 10 _ rfl (hsee 10 (by kernel_rfl))
        change NumN _ _ (V 10) _ at g10
        rw[e10] at g10
        exact mat2N hI.2.1 hb g6 g10 rfl rfl fun e=>absurd (congrArg vInts e) (by decide +kernel)
    ·
      cases ho
      have h0:=hsee 0 (by kernel_rfl)
      have hs:=hsee 11 (by kernel_rfl)
      obtain⟨b,es,clk,hV0,hO,hF,_⟩:=hI.1.2.2.1 h0
      conv=>whnf
      unfold enterK
      refine⟨.i64,2,b,⟨es⟩,clk,rfl,hV0,hO,(hF 2 0).1 (keyVal_none (x:=(2,12,11)) (by decide) hLi),?_⟩
      conv=>whnf
      exact⟨⟨_,rfl⟩,_,rfl,IOn_ins (x:=(2,12,11)) (by decide) hI hLi hs h0 hV0 hO rfl⟩
    ·
      cases ho
      conv=>whnf
      refine (c74 _).val fun H3 s3=>?_
      conv=>whnf
      exact⟨⟨_,rfl⟩,_,rfl,IOn_step hI hLi s3 rfl rfl trivial (by decide)⟩
    ·
      cases ho
      conv=>whnf
      exact⟨⟨_,rfl⟩,_,rfl,IOn_step hI hLi (Sub.refl _) rfl rfl trivial (by decide)⟩
    ·
      cases ho
      have h:=get 14 _ rfl (by kernel_rfl)
      change V 14=_ at h
      conv=>whnf
      rw[h]
      conv=>whnf
      refine (c54 4 _).val fun H3 s3=>?_
      conv=>whnf
      exact⟨⟨_,rfl⟩,_,rfl,IOn_step hI hLi s3 rfl rfl trivial (by decide)⟩
    ·
      cases ho
      conv=>whnf
      have h13:=get 13 _ rfl (by kernel_rfl)
      change V 13=_ at h13
      have h15:=get 15 _ rfl (by kernel_rfl)
      change V 15=_ at h15
      rw[h13]
      conv=>whnf
      rw[h15]
      conv=>whnf
      intro b hb hO
      conv=>whnf
      exact⟨⟨_,rfl⟩,_,rfl,IOn_step hI hLi (sub_ins _ _ hb) rfl (pair_num (ins_same _ _ _)) (numN_new hI.2.1 hb rfl rfl) (by decide)⟩
    ·
      cases ho
      have h:=get 16 _ rfl (by kernel_rfl)
      conv=>whnf
      refine (c143m _ (by decide) _ _ h).use fun u H3 s3 hq=>?_
      obtain⟨_,hq⟩:=hq
      conv=>whnf
      exact⟨⟨_,rfl⟩,_,rfl,IOn_step hI hLi s3 rfl hq.mat (hq.base hI.2.1) (by decide)⟩
    ·
      cases ho
      have h0:=hsee 0 (by kernel_rfl)
      have hs:=hsee 17 (by kernel_rfl)
      obtain⟨b,es,clk,hV0,hO,hF,_⟩:=hI.1.2.2.1 h0
      conv=>whnf
      unfold enterK
      refine⟨.i64,3,b,⟨es⟩,clk,rfl,hV0,hO,(hF 3 0).1 (keyVal_none (x:=(3,18,17)) (by decide) hLi),?_⟩
      conv=>whnf
      exact⟨⟨_,rfl⟩,_,rfl,IOn_ins (x:=(3,18,17)) (by decide) hI hLi hs h0 hV0 hO rfl⟩
    ·
      cases ho
      conv=>whnf
      exact⟨⟨_,rfl⟩,_,rfl,IOn_step hI hLi (Sub.refl _) rfl rfl trivial (by decide)⟩
    ·
      cases ho
      conv=>whnf
      exact⟨⟨_,rfl⟩,_,rfl,IOn_step hI hLi (Sub.refl _) rfl rfl trivial (by decide)⟩
    ·
      cases ho
      conv=>whnf
      have h19:=get 19 _ rfl (by kernel_rfl)
      change V 19=_ at h19
      have h20:=get 20 _ rfl (by kernel_rfl)
      change V 20=_ at h20
      rw[h19]
      conv=>whnf
      rw[h20]
      conv=>whnf
      intro b hb hO
      conv=>whnf
      exact⟨⟨_,rfl⟩,_,rfl,IOn_step hI hLi (sub_ins _ _ hb) rfl (pair_num (ins_same _ _ _)) (numN_new hI.2.1 hb rfl rfl) (by decide)⟩
    ·
      cases ho
      conv=>whnf
      exact⟨⟨_,rfl⟩,_,rfl,IOn_step hI hLi (Sub.refl _) rfl rfl trivial (by decide)⟩
    ·
      cases ho
      conv=>whnf
      exact⟨⟨_,rfl⟩,_,rfl,IOn_step hI hLi (Sub.refl _) rfl rfl trivial (by decide)⟩
    ·
      cases ho
      conv=>whnf
      have h22:=get 22 _ rfl (by kernel_rfl)
      change V 22=_ at h22
      have h23:=get 23 _ rfl (by kernel_rfl)
      change V 23=_ at h23
      rw[h22]
      conv=>whnf
      rw[h23]
      conv=>whnf
      intro b hb hO
      conv=>whnf
      exact⟨⟨_,rfl⟩,_,rfl,IOn_step hI hLi (sub_ins _ _ hb) rfl (pair_num (ins_same _ _ _)) (numN_new hI.2.1 hb rfl rfl) (by decide)⟩
    ·
      cases ho
      have h21:=get 21 _ rfl (by kernel_rfl)
      change NumH _ (V 21) _ at h21
      obtain⟨base21,cap21,e21,_⟩:=id h21
      have h24:=get 24 _ rfl (by kernel_rfl)
      change NumH _ (V 24) _ at h24
      obtain⟨base24,cap24,e24,_⟩:=id h24
      conv=>whnf
      rw[e21]
      conv=>whnf
      rw[e24]
      conv=>whnf
      intro b hb hO
      conv=>whnf
      have f21:=h21
      rw[e21] at f21
      have f24:=h24
      rw[e24] at f24
      refine⟨⟨_,rfl⟩,_,rfl,IOn_step hI hLi (sub_ins _ _ hb) rfl (mat2 (ins_same _ _ _) ?_ ?_) ?_ (by decide)⟩
      · exact f21.up (sub_ins _ _ hb)
      · exact f24.up (sub_ins _ _ hb)
      · have g21:=hI.2.2 21 _ rfl (hsee 21 (by kernel_rfl))
        change NumN _ _ (V 21) _ at g21
        rw[e21] at g21
        have g24:=hI.2.2 24 _ rfl (hsee 24 (by kernel_rfl))
        change NumN _ _ (V 24) _ at g24
        rw[e24] at g24
        exact mat2N hI.2.1 hb g21 g24 rfl rfl fun e=>absurd (congrArg vInts e) (by decide +kernel)
    ·
      cases ho
      have h0:=hsee 0 (by kernel_rfl)
      have hs:=hsee 25 (by kernel_rfl)
      obtain⟨b,es,clk,hV0,hO,hF,_⟩:=hI.1.2.2.1 h0
      conv=>whnf
      unfold enterK
      refine⟨.i64,4,b,⟨es⟩,clk,rfl,hV0,hO,(hF 4 0).1 (keyVal_none (x:=(4,26,25)) (by decide) hLi),?_⟩
      conv=>whnf
      exact⟨⟨_,rfl⟩,_,rfl,IOn_ins (x:=(4,26,25)) (by decide) hI hLi hs h0 hV0 hO rfl⟩
    ·
      cases ho
      conv=>whnf
      refine (c74 _).val fun H3 s3=>?_
      conv=>whnf
      exact⟨⟨_,rfl⟩,_,rfl,IOn_step hI hLi s3 rfl rfl trivial (by decide)⟩
    ·
      cases ho
      conv=>whnf
      exact⟨⟨_,rfl⟩,_,rfl,IOn_step hI hLi (Sub.refl _) rfl rfl trivial (by decide)⟩
    ·
      cases ho
      have h:=get 28 _ rfl (by kernel_rfl)
      change V 28=_ at h
      conv=>whnf
      rw[h]
      conv=>whnf
      refine (c54 2 _).val fun H3 s3=>?_
      conv=>whnf
      exact⟨⟨_,rfl⟩,_,rfl,IOn_step hI hLi s3 rfl rfl trivial (by decide)⟩
    ·
      cases ho
      conv=>whnf
      have h27:=get 27 _ rfl (by kernel_rfl)
      change V 27=_ at h27
      have h29:=get 29 _ rfl (by kernel_rfl)
      change V 29=_ at h29
      rw[h27]
      conv=>whnf
      rw[h29]
      conv=>whnf
      intro b hb hO
      conv=>whnf
      exact⟨⟨_,rfl⟩,_,rfl,IOn_step hI hLi (sub_ins _ _ hb) rfl (pair_num (ins_same _ _ _)) (numN_new hI.2.1 hb rfl rfl) (by decide)⟩
    ·
      cases ho
      have h:=get 30 _ rfl (by kernel_rfl)
      conv=>whnf
      refine (c143m _ (by decide) _ _ h).use fun u H3 s3 hq=>?_
      obtain⟨_,hq⟩:=hq
      conv=>whnf
      exact⟨⟨_,rfl⟩,_,rfl,IOn_step hI hLi s3 rfl hq.mat (hq.base hI.2.1) (by decide)⟩
    ·
      cases ho
      have h0:=hsee 0 (by kernel_rfl)
      have hs:=hsee 31 (by kernel_rfl)
      obtain⟨b,es,clk,hV0,hO,hF,_⟩:=hI.1.2.2.1 h0
      conv=>whnf
      unfold enterK
      refine⟨.i64,5,b,⟨es⟩,clk,rfl,hV0,hO,(hF 5 0).1 (keyVal_none (x:=(5,32,31)) (by decide) hLi),?_⟩
      conv=>whnf
      exact⟨⟨_,rfl⟩,_,rfl,IOn_ins (x:=(5,32,31)) (by decide) hI hLi hs h0 hV0 hO rfl⟩
    ·
      cases ho
      conv=>whnf
      refine (c74 _).val fun H3 s3=>?_
      conv=>whnf
      exact⟨⟨_,rfl⟩,_,rfl,IOn_step hI hLi s3 rfl rfl trivial (by decide)⟩
    ·
      cases ho
      conv=>whnf
      exact⟨⟨_,rfl⟩,_,rfl,IOn_step hI hLi (Sub.refl _) rfl rfl trivial (by decide)⟩
    ·
      cases ho
      have h:=get 34 _ rfl (by kernel_rfl)
      change V 34=_ at h
      conv=>whnf
      rw[h]
      conv=>whnf
      refine (c54 6 _).val fun H3 s3=>?_
      conv=>whnf
      exact⟨⟨_,rfl⟩,_,rfl,IOn_step hI hLi s3 rfl rfl trivial (by decide)⟩
    ·
      cases ho
      conv=>whnf
      have h33:=get 33 _ rfl (by kernel_rfl)
      change V 33=_ at h33
      have h35:=get 35 _ rfl (by kernel_rfl)
      change V 35=_ at h35
      rw[h33]
      conv=>whnf
      rw[h35]
      conv=>whnf
      intro b hb hO
      conv=>whnf
      exact⟨⟨_,rfl⟩,_,rfl,IOn_step hI hLi (sub_ins _ _ hb) rfl (pair_num (ins_same _ _ _)) (numN_new hI.2.1 hb rfl rfl) (by decide)⟩
    ·
      cases ho
      have h:=get 36 _ rfl (by kernel_rfl)
      conv=>whnf
      refine (c143m _ (by decide) _ _ h).use fun u H3 s3 hq=>?_
      obtain⟨_,hq⟩:=hq
      conv=>whnf
      exact⟨⟨_,rfl⟩,_,rfl,IOn_step hI hLi s3 rfl hq.mat (hq.base hI.2.1) (by decide)⟩
    ·
      cases ho
      have h0:=hsee 0 (by kernel_rfl)
      have hs:=hsee 37 (by kernel_rfl)
      obtain⟨b,es,clk,hV0,hO,hF,_⟩:=hI.1.2.2.1 h0
      conv=>whnf
      unfold enterK
      refine⟨.i64,6,b,⟨es⟩,clk,rfl,hV0,hO,(hF 6 0).1 (keyVal_none (x:=(6,38,37)) (by decide) hLi),?_⟩
      conv=>whnf
      exact⟨⟨_,rfl⟩,_,rfl,IOn_ins (x:=(6,38,37)) (by decide) hI hLi hs h0 hV0 hO rfl⟩
    ·
      cases ho
      conv=>whnf
      refine (c74 _).val fun H3 s3=>?_
      conv=>whnf
      exact⟨⟨_,rfl⟩,_,rfl,IOn_step hI hLi s3 rfl rfl trivial (by decide)⟩
    ·
      cases ho
      conv=>whnf
      exact⟨⟨_,rfl⟩,_,rfl,IOn_step hI hLi (Sub.refl _) rfl rfl trivial (by decide)⟩
    ·
      cases ho
      have h:=get 40 _ rfl (by kernel_rfl)
      change V 40=_ at h
      conv=>whnf
      rw[h]
      conv=>whnf
      refine (c54 1 _).val fun H3 s3=>?_
      conv=>whnf
      exact⟨⟨_,rfl⟩,_,rfl,IOn_step hI hLi s3 rfl rfl trivial (by decide)⟩
    ·
      cases ho
      conv=>whnf
      have h39:=get 39 _ rfl (by kernel_rfl)
      change V 39=_ at h39
      have h41:=get 41 _ rfl (by kernel_rfl)
      change V 41=_ at h41
      rw[h39]
      conv=>whnf
      rw[h41]
      conv=>whnf
      intro b hb hO
      conv=>whnf
      exact⟨⟨_,rfl⟩,_,rfl,IOn_step hI hLi (sub_ins _ _ hb) rfl (pair_num (ins_same _ _ _)) (numN_new hI.2.1 hb rfl rfl) (by decide)⟩
    ·
      cases ho
      have h:=get 42 _ rfl (by kernel_rfl)
      conv=>whnf
      refine (c143m _ (by decide) _ _ h).use fun u H3 s3 hq=>?_
      obtain⟨_,hq⟩:=hq
      conv=>whnf
      exact⟨⟨_,rfl⟩,_,rfl,IOn_step hI hLi s3 rfl hq.mat (hq.base hI.2.1) (by decide)⟩
    ·
      cases ho
      have h0:=hsee 0 (by kernel_rfl)
      have hs:=hsee 43 (by kernel_rfl)
      obtain⟨b,es,clk,hV0,hO,hF,_⟩:=hI.1.2.2.1 h0
      conv=>whnf
      unfold enterK
      refine⟨.i64,7,b,⟨es⟩,clk,rfl,hV0,hO,(hF 7 0).1 (keyVal_none (x:=(7,44,43)) (by decide) hLi),?_⟩
      conv=>whnf
      exact⟨⟨_,rfl⟩,_,rfl,IOn_ins (x:=(7,44,43)) (by decide) hI hLi hs h0 hV0 hO rfl⟩
    ·
      cases ho
      conv=>whnf
      refine (c74 _).val fun H3 s3=>?_
      conv=>whnf
      exact⟨⟨_,rfl⟩,_,rfl,IOn_step hI hLi s3 rfl rfl trivial (by decide)⟩
    ·
      cases ho
      conv=>whnf
      exact⟨⟨_,rfl⟩,_,rfl,IOn_step hI hLi (Sub.refl _) rfl rfl trivial (by decide)⟩
    ·
      cases ho
      have h:=get 46 _ rfl (by kernel_rfl)
      change V 46=_ at h
      conv=>whnf
      rw[h]
      conv=>whnf
      refine (c54 7 _).val fun H3 s3=>?_
      conv=>whnf
      exact⟨⟨_,rfl⟩,_,rfl,IOn_step hI hLi s3 rfl rfl trivial (by decide)⟩
    ·
      cases ho
      conv=>whnf
      have h45:=get 45 _ rfl (by kernel_rfl)
      change V 45=_ at h45
      have h47:=get 47 _ rfl (by kernel_rfl)
      change V 47=_ at h47
      rw[h45]
      conv=>whnf
      rw[h47]
      conv=>whnf
      intro b hb hO
      conv=>whnf
      exact⟨⟨_,rfl⟩,_,rfl,IOn_step hI hLi (sub_ins _ _ hb) rfl (pair_num (ins_same _ _ _)) (numN_new hI.2.1 hb rfl rfl) (by decide)⟩
    ·
      cases ho
      have h:=get 48 _ rfl (by kernel_rfl)
      conv=>whnf
      refine (c143m _ (by decide) _ _ h).use fun u H3 s3 hq=>?_
      obtain⟨_,hq⟩:=hq
      conv=>whnf
      exact⟨⟨_,rfl⟩,_,rfl,IOn_step hI hLi s3 rfl hq.mat (hq.base hI.2.1) (by decide)⟩
    ·
      cases ho
      have h0:=hsee 0 (by kernel_rfl)
      have hs:=hsee 49 (by kernel_rfl)
      obtain⟨b,es,clk,hV0,hO,hF,_⟩:=hI.1.2.2.1 h0
      conv=>whnf
      unfold enterK
      refine⟨.i64,8,b,⟨es⟩,clk,rfl,hV0,hO,(hF 8 0).1 (keyVal_none (x:=(8,50,49)) (by decide) hLi),?_⟩
      conv=>whnf
      exact⟨⟨_,rfl⟩,_,rfl,IOn_ins (x:=(8,50,49)) (by decide) hI hLi hs h0 hV0 hO rfl⟩
    ·
      cases ho
      conv=>whnf
      refine (c133m tCX 4 (by decide) (by decide) _ (.func 191) #[] #[] (fun k hk=>⟨191,[],[],rfl,fun H4 _=>c144 k hk H4⟩)).use fun u H3 s3 hq=>?_
      obtain⟨_,hq⟩:=hq
      conv=>whnf
      exact⟨⟨_,rfl⟩,_,rfl,IOn_step hI hLi s3 rfl hq.mat (hq.base hI.2.1) (by decide)⟩
    ·
      cases ho
      have h0:=hsee 0 (by kernel_rfl)
      have hs:=hsee 51 (by kernel_rfl)
      obtain⟨b,es,clk,hV0,hO,hF,_⟩:=hI.1.2.2.1 h0
      conv=>whnf
      unfold enterK
      refine⟨.i64,9,b,⟨es⟩,clk,rfl,hV0,hO,(hF 9 0).1 (keyVal_none (x:=(9,52,51)) (by decide) hLi),?_⟩
      conv=>whnf
      exact⟨⟨_,rfl⟩,_,rfl,IOn_ins (x:=(9,52,51)) (by decide) hI hLi hs h0 hV0 hO rfl⟩
    ·
      cases ho
      conv=>whnf
      refine (c74 _).val fun H3 s3=>?_
      conv=>whnf
      exact⟨⟨_,rfl⟩,_,rfl,IOn_step hI hLi s3 rfl rfl trivial (by decide)⟩
    ·
      cases ho
      conv=>whnf
      refine (c74 _).val fun H3 s3=>?_
      conv=>whnf
      exact⟨⟨_,rfl⟩,_,rfl,IOn_step hI hLi s3 rfl rfl trivial (by decide)⟩
    ·
      cases ho
      conv=>whnf
      refine (c74 _).val fun H3 s3=>?_
      conv=>whnf
      exact⟨⟨_,rfl⟩,_,rfl,IOn_step hI hLi s3 rfl rfl trivial (by decide)⟩
    ·
      cases ho
      conv=>whnf
      exact⟨⟨_,rfl⟩,_,rfl,IOn_step hI hLi (Sub.refl _) rfl rfl trivial (by decide)⟩
    ·
      cases ho
      have h:=get 56 _ rfl (by kernel_rfl)
      change V 56=_ at h
      conv=>whnf
      rw[h]
      conv=>whnf
      refine (c54 4 _).val fun H3 s3=>?_
      conv=>whnf
      exact⟨⟨_,rfl⟩,_,rfl,IOn_step hI hLi s3 rfl rfl trivial (by decide)⟩
    ·
      cases ho
      conv=>whnf
      have h53:=get 53 _ rfl (by kernel_rfl)
      change V 53=_ at h53
      have h54:=get 54 _ rfl (by kernel_rfl)
      change V 54=_ at h54
      have h55:=get 55 _ rfl (by kernel_rfl)
      change V 55=_ at h55
      have h57:=get 57 _ rfl (by kernel_rfl)
      change V 57=_ at h57
      rw[h53]
      conv=>whnf
      rw[h54]
      conv=>whnf
      rw[h55]
      conv=>whnf
      rw[h57]
      conv=>whnf
      intro b hb hO
      conv=>whnf
      exact⟨⟨_,rfl⟩,_,rfl,IOn_step hI hLi (sub_ins _ _ hb) rfl (quad_num (ins_same _ _ _)) (numN_new hI.2.1 hb rfl rfl) (by decide)⟩
    ·
      cases ho
      have h:=get 58 _ rfl (by kernel_rfl)
      conv=>whnf
      refine (c143m _ (by decide) _ _ h).use fun u H3 s3 hq=>?_
      obtain⟨_,hq⟩:=hq
      conv=>whnf
      exact⟨⟨_,rfl⟩,_,rfl,IOn_step hI hLi s3 rfl hq.mat (hq.base hI.2.1) (by decide)⟩
    ·
      cases ho
      have h0:=hsee 0 (by kernel_rfl)
      have hs:=hsee 59 (by kernel_rfl)
      obtain⟨b,es,clk,hV0,hO,hF,_⟩:=hI.1.2.2.1 h0
      conv=>whnf
      unfold enterK
      refine⟨.i64,10,b,⟨es⟩,clk,rfl,hV0,hO,(hF 10 0).1 (keyVal_none (x:=(10,60,59)) (by decide) hLi),?_⟩
      conv=>whnf
      exact⟨⟨_,rfl⟩,_,rfl,IOn_ins (x:=(10,60,59)) (by decide) hI hLi hs h0 hV0 hO rfl⟩
    ·
      cases ho
      conv=>whnf
      refine (c133m tSwap 4 (by decide) (by decide) _ (.func 192) #[] #[] (fun k hk=>⟨192,[],[],rfl,fun H4 _=>c145 k hk H4⟩)).use fun u H3 s3 hq=>?_
      obtain⟨_,hq⟩:=hq
      conv=>whnf
      exact⟨⟨_,rfl⟩,_,rfl,IOn_step hI hLi s3 rfl hq.mat (hq.base hI.2.1) (by decide)⟩
    ·
      cases ho
      have h0:=hsee 0 (by kernel_rfl)
      have hs:=hsee 61 (by kernel_rfl)
      obtain⟨b,es,clk,hV0,hO,hF,_⟩:=hI.1.2.2.1 h0
      conv=>whnf
      unfold enterK
      refine⟨.i64,11,b,⟨es⟩,clk,rfl,hV0,hO,(hF 11 0).1 (keyVal_none (x:=(11,62,61)) (by decide) hLi),?_⟩
      conv=>whnf
      exact⟨⟨_,rfl⟩,_,rfl,IOn_ins (x:=(11,62,61)) (by decide) hI hLi hs h0 hV0 hO rfl⟩
    ·
      cases ho
      conv=>whnf
      refine (c133m tCCX 8 (by decide) (by decide) _ (.func 193) #[] #[] (fun k hk=>⟨193,[],[],rfl,fun H4 _=>c146 k hk H4⟩)).use fun u H3 s3 hq=>?_
      obtain⟨_,hq⟩:=hq
      conv=>whnf
      exact⟨⟨_,rfl⟩,_,rfl,IOn_step hI hLi s3 rfl hq.mat (hq.base hI.2.1) (by decide)⟩
    ·
      cases ho
      have h0:=hsee 0 (by kernel_rfl)
      have hs:=hsee 63 (by kernel_rfl)
      obtain⟨b,es,clk,hV0,hO,hF,_⟩:=hI.1.2.2.1 h0
      conv=>whnf
      unfold enterK
      refine⟨.i64,12,b,⟨es⟩,clk,rfl,hV0,hO,(hF 12 0).1 (keyVal_none (x:=(12,64,63)) (by decide) hLi),?_⟩
      conv=>whnf
      exact⟨⟨_,rfl⟩,_,rfl,IOn_ins (x:=(12,64,63)) (by decide) hI hLi hs h0 hV0 hO rfl⟩
    ·
      cases ho
      have h0:=hsee 0 (by kernel_rfl)
      conv=>whnf
      exact⟨⟨_,rfl⟩,_,rfl,IOn_same hI hLi h0 (.inl rfl) fun b h=>h⟩
    ·
      cases ho
      have h65:=hsee 65 (by kernel_rfl)
      have h0:L 0=true:=by
        cases e:L 0 with
        | true=>rfl
        | false=>have:=(hI.1.2.2.2 e).2.1;rw[h65] at this;cases this
      obtain⟨b,es,clk,hV0,_,_,h5,_⟩:=hI.1.2.2.1 h0
      conv=>whnf
      exact⟨⟨_,rfl⟩,_,rfl,IOn_same hI hLi h0 (.inr rfl) fun b' h=>(h5 h65).trans (hV0.symm.trans h)⟩
  · intro L V H' O' hI hL
    have hl:∀ j,j < 67→L j=true:=fun j hj=>hL j hj
    obtain⟨b,es,clk,hV0,hO,hF,_,h66⟩:=hI.1.2.2.1 (hl 0 (by decide))
    conv=>whnf
    refine⟨b,es,clk,h66 (hl 66 (by decide)),hO,fun k k1 k2=>?_,fun n hn=>(hF n 0).1 ?_⟩
    · obtain rfl | rfl | rfl | rfl | rfl | rfl | rfl | rfl | rfl | rfl | rfl | rfl:k=1∨k=2∨k=3∨k=4∨k=5∨k=6∨k=7∨k=8∨k=9∨k=10∨k=11∨k=12:=by omega
      · obtain⟨j,hj⟩:=(hF 1 0).2 _ (keyVal_some (x:=(1,2,1)) (by decide) (hl 2 (by decide)))
        exact⟨j,_,hj,hI.2.2 1 _ rfl (hl 1 (by decide))⟩
      · obtain⟨j,hj⟩:=(hF 2 0).2 _ (keyVal_some (x:=(2,12,11)) (by decide) (hl 12 (by decide)))
        exact⟨j,_,hj,hI.2.2 11 _ rfl (hl 11 (by decide))⟩
      · obtain⟨j,hj⟩:=(hF 3 0).2 _ (keyVal_some (x:=(3,18,17)) (by decide) (hl 18 (by decide)))
        exact⟨j,_,hj,hI.2.2 17 _ rfl (hl 17 (by decide))⟩
      · obtain⟨j,hj⟩:=(hF 4 0).2 _ (keyVal_some (x:=(4,26,25)) (by decide) (hl 26 (by decide)))
        exact⟨j,_,hj,hI.2.2 25 _ rfl (hl 25 (by decide))⟩
      · obtain⟨j,hj⟩:=(hF 5 0).2 _ (keyVal_some (x:=(5,32,31)) (by decide) (hl 32 (by decide)))
        exact⟨j,_,hj,hI.2.2 31 _ rfl (hl 31 (by decide))⟩
      · obtain⟨j,hj⟩:=(hF 6 0).2 _ (keyVal_some (x:=(6,38,37)) (by decide) (hl 38 (by decide)))
        exact⟨j,_,hj,hI.2.2 37 _ rfl (hl 37 (by decide))⟩
      · obtain⟨j,hj⟩:=(hF 7 0).2 _ (keyVal_some (x:=(7,44,43)) (by decide) (hl 44 (by decide)))
        exact⟨j,_,hj,hI.2.2 43 _ rfl (hl 43 (by decide))⟩
      · obtain⟨j,hj⟩:=(hF 8 0).2 _ (keyVal_some (x:=(8,50,49)) (by decide) (hl 50 (by decide)))
        exact⟨j,_,hj,hI.2.2 49 _ rfl (hl 49 (by decide))⟩
      · obtain⟨j,hj⟩:=(hF 9 0).2 _ (keyVal_some (x:=(9,52,51)) (by decide) (hl 52 (by decide)))
        exact⟨j,_,hj,hI.2.2 51 _ rfl (hl 51 (by decide))⟩
      · obtain⟨j,hj⟩:=(hF 10 0).2 _ (keyVal_some (x:=(10,60,59)) (by decide) (hl 60 (by decide)))
        exact⟨j,_,hj,hI.2.2 59 _ rfl (hl 59 (by decide))⟩
      · obtain⟨j,hj⟩:=(hF 11 0).2 _ (keyVal_some (x:=(11,62,61)) (by decide) (hl 62 (by decide)))
        exact⟨j,_,hj,hI.2.2 61 _ rfl (hl 61 (by decide))⟩
      · obtain⟨j,hj⟩:=(hF 12 0).2 _ (keyVal_some (x:=(12,64,63)) (by decide) (hl 64 (by decide)))
        exact⟨j,_,hj,hI.2.2 63 _ rfl (hl 63 (by decide))⟩
    · have h12:∀ x∈tabO,1≤x.1∧x.1≤12:=by decide
      unfold keyVal
      rw[show (tabO.find? fun y=>((y.1:Int) == n) && L y.2.1)=none from List.find?_eq_none.2 fun y hy h=>?_]
      · rfl
      · simp only[Bool.and_eq_true,beq_iff_eq] at h
        have:=h12 y hy
        omega
theorem c21m (k : Int) (H:PH):Cl Tryz.prog 155 [.int .i64 k] H emp fun r _ M'=>OutO M' r (OfR k):=by
  by_cases hk:1≤k∧k≤12
  · have e:OfR k=(opM k.toNat,0):=if_pos hk
    rw[e]
    refine Cl.mine (Q:=fun r u=>r=.tuple #[u,.int .i64 0]) ?_
    obtain⟨n,rfl⟩:=nat_of (a:=k) (by omega)
    rw[Int.toNat_natCast]
    refine Cl_of (pol:=polL) Γok Tryz.func155 (by kernel_rfl) rfl ?_
    conv=>whnf
    refine (c75n _).use fun r H1 s1 hr=>?_
    obtain⟨_,b,es,clk,rfl,hb,hkk,_⟩:=hr
    obtain⟨j,u,hj,hu⟩:=hkk n (by omega) (by omega)
    conv=>whnf
    unfold lookK
    refine⟨.i64,n,rfl,.inr ⟨b,⟨es⟩,clk,_,rfl,.inl hb,hj,?_⟩⟩
    intro z
    conv=>whnf
    exact⟨u,rfl,hu⟩
  · have e:OfR k=([],3):=if_neg hk
    rw[e]
    refine Cl_of (pol:=polL) Γok Tryz.func155 (by kernel_rfl) rfl ?_
    conv=>whnf
    refine (c75n _).use fun r H1 s1 hr=>?_
    obtain⟨_,b,es,clk,rfl,hb,_,hno⟩:=hr
    have hj:=hno k (by omega)
    conv=>whnf
    unfold lookK
    refine⟨.i64,k,rfl,.inr ⟨b,⟨es⟩,clk,_,rfl,.inl hb,hj,?_⟩⟩
    intro z
    conv=>whnf
    exact⟨_,rfl,.inl ⟨rfl,rfl⟩⟩
end Go.Proofs.YtmhnalikebkhjaaGreatDoor

namespace Go.Proofs.YtmhnalikebkhjaaGreatDoor
open Go.Proofs.YtmhnalikebkhjaaGreatDoor.X Go.Proofs.YtmhnalikebkhjaaGreatDoor.X.PH
set_option maxRecDepth 100000
end Go.Proofs.YtmhnalikebkhjaaGreatDoor

namespace Go.Proofs.YtmhnalikebkhjaaGreatDoor
open Go.Proofs.YtmhnalikebkhjaaGreatDoor.X Go.Proofs.YtmhnalikebkhjaaGreatDoor.X.PH
set_option maxRecDepth 100000
end Go.Proofs.YtmhnalikebkhjaaGreatDoor

namespace Go.Proofs.YtmhnalikebkhjaaGreatDoor
open Go.Proofs.YtmhnalikebkhjaaGreatDoor.X Go.Proofs.YtmhnalikebkhjaaGreatDoor.X.PH
set_option maxRecDepth 100000
end Go.Proofs.YtmhnalikebkhjaaGreatDoor

namespace Go.Proofs.YtmhnalikebkhjaaGreatDoor
open Go.Proofs.YtmhnalikebkhjaaGreatDoor.X Go.Proofs.YtmhnalikebkhjaaGreatDoor.X.PH
set_option maxRecDepth 100000
end Go.Proofs.YtmhnalikebkhjaaGreatDoor

namespace Go.Proofs.YtmhnalikebkhjaaGreatDoor
open Go.Proofs.YtmhnalikebkhjaaGreatDoor.X Go.Proofs.YtmhnalikebkhjaaGreatDoor.X.PH
set_option maxRecDepth 100000
def IntsB (O : PH) (v:Value) (l:List Int):Prop:=IntsO O v l∧∀ b n cap,v=.slice b n cap→cap≤9223372036854775807
theorem IntsB.mk {O : PH} {b n cap:Nat} {l:List Int} {spare:List Value} (h:O b=some (.cells ⟨l.map (fun x=>Value.int .i64 x)++spare⟩ 3 (0,0))) (hn:n=l.length) (hc:l.length≤cap) (hs:spare.length=cap - l.length) (hcap:cap≤9223372036854775807):IntsB O (.slice (some ⟨b,0,none⟩) n cap) l:=by
  subst hn
  refine⟨⟨by simp,.inr ⟨b,cap,spare,by simp,by rw[flat_oneI];exact h,by simpa using hc,by simpa using hs⟩⟩,fun _ _ _ e=>by cases e;exact hcap⟩
end Go.Proofs.YtmhnalikebkhjaaGreatDoor

namespace Go.Proofs.YtmhnalikebkhjaaGreatDoor
open Go.Proofs.YtmhnalikebkhjaaGreatDoor.X Go.Proofs.YtmhnalikebkhjaaGreatDoor.X.PH
set_option maxRecDepth 100000
theorem IntsB.sub {O O' : PH} {v:Value} {l:List Int} (h:IntsB O v l) (hs:Sub O O'):IntsB O' v l:=by
  obtain⟨⟨h1,h2⟩,h3⟩:=h
  refine⟨⟨h1,?_⟩,h3⟩
  rcases h2 with h | ⟨b,cap,sp,e,ho,q⟩
  · exact .inl h
  · exact .inr ⟨b,cap,sp,e,hs _ _ ho,q⟩
end Go.Proofs.YtmhnalikebkhjaaGreatDoor

namespace Go.Proofs.YtmhnalikebkhjaaGreatDoor
open Go.Proofs.YtmhnalikebkhjaaGreatDoor.X Go.Proofs.YtmhnalikebkhjaaGreatDoor.X.PH
set_option maxRecDepth 100000
end Go.Proofs.YtmhnalikebkhjaaGreatDoor

namespace Go.Proofs.YtmhnalikebkhjaaGreatDoor
open Go.Proofs.YtmhnalikebkhjaaGreatDoor.X Go.Proofs.YtmhnalikebkhjaaGreatDoor.X.PH
set_option maxRecDepth 100000
end Go.Proofs.YtmhnalikebkhjaaGreatDoor

namespace Go.Proofs.YtmhnalikebkhjaaGreatDoor
open Go.Proofs.YtmhnalikebkhjaaGreatDoor.X Go.Proofs.YtmhnalikebkhjaaGreatDoor.X.PH
set_option maxRecDepth 100000
instance (p : P4) (n : Int) : Decidable (p.within n) := by unfold P4.within; exact inferInstance
instance : DecidableEq P4 := fun p q => if h : p.a = q.a ∧ p.b = q.b ∧ p.c = q.c ∧ p.d = q.d then isTrue (P4.ext' h.1 h.2.1 h.2.2.1 h.2.2.2) else isFalse fun e => h (by rw [e]; exact ⟨rfl, rfl, rfl, rfl⟩)
end Go.Proofs.YtmhnalikebkhjaaGreatDoor

namespace Go.Proofs.YtmhnalikebkhjaaGreatDoor
open Go.Proofs.YtmhnalikebkhjaaGreatDoor.X Go.Proofs.YtmhnalikebkhjaaGreatDoor.X.PH
set_option maxRecDepth 100000
structure Gt where
  kind:Int
  ws:List Int
  bit:Int
  cond:Int
  deriving DecidableEq
def arityF (k : Int):Int:=if k=12 then 3 else if 9≤k∧k≤11 then 2 else if 1≤k∧k≤14 then 1 else 0
theorem arityF_range (k : Int):0≤arityF k∧arityF k≤3:=by
  unfold arityF
  split
  · omega
  split
  · omega
  split<;>omega
theorem d75 (k : Int) (H:PH):Cl Tryz.prog 75 [.int .i64 k] H emp fun r _ _=>r=.int .i64 (arityF k):=by
  refine Cl_of (pol:=polL) Γok Tryz.func75 (by kernel_rfl) rfl ?_
  conv=>whnf
  repeat' (refine if_intro (fun h=>?_) (fun h=>?_)<;>conv=>whnf)
  all_goals (simp only[beq_iff_eq,beq_eq_false_iff_ne,ne_eq,decide_eq_true_eq,decide_eq_false_iff_not] at *;unfold arityF;congr 1)
  all_goals (first | (rw[if_pos (by omega)];done) | (rw[if_neg (by omega),if_pos (by omega)];done) | (rw[if_neg (by omega),if_neg (by omega),if_pos (by omega)];done) | (rw[if_neg (by omega),if_neg (by omega),if_neg (by omega)];done))
theorem d112 (k : Int) (H:PH):Cl Tryz.prog 112 [.int .i64 k] H emp fun r _ _=>r=.int .i64 (arityF k):=by
  refine Cl_of (pol:=polL) Γok Tryz.func112 (by kernel_rfl) rfl ?_
  conv=>whnf
  repeat' (refine if_intro (fun h=>?_) (fun h=>?_)<;>conv=>whnf)
  all_goals (simp only[beq_iff_eq,beq_eq_false_iff_ne,ne_eq,decide_eq_true_eq,decide_eq_false_iff_not] at *;unfold arityF;congr 1)
  all_goals (first | (rw[if_pos (by omega)];done) | (rw[if_neg (by omega),if_pos (by omega)];done) | (rw[if_neg (by omega),if_neg (by omega),if_pos (by omega)];done) | (rw[if_neg (by omega),if_neg (by omega),if_neg (by omega)];done))
end Go.Proofs.YtmhnalikebkhjaaGreatDoor

namespace Go.Proofs.YtmhnalikebkhjaaGreatDoor
open Go.Proofs.YtmhnalikebkhjaaGreatDoor.X Go.Proofs.YtmhnalikebkhjaaGreatDoor.X.PH
set_option maxRecDepth 100000
def offF (n lo hi : Int):Bool:=decide (n < lo) || decide (n > hi)
theorem d121 (n lo hi : Int) (H:PH):Cl Tryz.prog 121 [.int .i64 n,.int .i64 lo,.int .i64 hi] H emp fun r _ _=>r=.bool (offF n lo hi):=by
  refine Cl_of (pol:=polL) Γok Tryz.func121 (by kernel_rfl) rfl ?_
  conv=>whnf
  unfold offF
  refine if_intro (fun h=>?_) (fun h=>?_)<;>conv=>whnf
  · rw[h]<;>rfl
  · rw[h]<;>rfl
theorem IntsH.sl {H : PH} {v:Value} {l:List Int} (h:IntsH H v l):∃ base cap,v=.slice base l.length cap:=by
  obtain⟨b,c,e,_⟩:=h
  exact⟨b,c,e⟩
def IntsC (H : PH) (v:Value) (l:List Int):Prop:=∃ base cap,v=.slice base l.length cap∧l.length≤cap∧IntsH H v l
theorem IntsC.up {H H' : PH} {v:Value} {l:List Int} (h:IntsC H v l) (hs:Sub H H'):IntsC H' v l:=by
  obtain⟨b,c,e,h1,h2⟩:=h
  exact⟨b,c,e,h1,IntsH.up h2 hs⟩
theorem IntsC.h {H : PH} {v:Value} {l:List Int} (h:IntsC H v l):IntsH H v l:=by
  obtain⟨_,_,_,_,h2⟩:=h
  exact h2
theorem IntsH.pre {H : PH} {base base':Option Addr} {n n' cap cap':Nat} {l:List Int} (h:IntsH H (.slice base n cap) l) {i:Nat} (hi:i≤l.length) (hb:base'=base) (hn:n'=i):IntsH H (.slice base' n' cap') (l.take i):=by
  subst hb hn
  obtain⟨_,_,e,h⟩:=h
  cases e
  have hl:(l.take n').length=n':=by rw[List.length_take];omega
  refine⟨base',cap',by rw[hl],?_⟩
  rcases h with⟨h,_⟩ | ⟨b,off,c,t,fr,h1,h2,h3⟩
  · refine .inl ⟨by rw[hl];omega,?_⟩
    have:l=[]:=List.length_eq_zero_iff.1 h
    subst this
    simp
  · refine .inr ⟨b,off,c,t,fr,h1,h2,?_⟩
    rw[List.length_map,hl,List.map_take,← h3,List.take_take,List.length_map,Nat.min_eq_left hi]
theorem contains_take {l : List Int} {x:Int} {i:Nat} (hi:i < l.length):(l.take (i+1)).contains x=((l.take i).contains x || (l[i] == x)):=by
  rw[List.take_succ_eq_append_getElem hi,List.contains_eq_any_beq,List.contains_eq_any_beq,List.any_append]
  simp[Bool.beq_comm,eq_comm]
theorem d156 (l : List Int) (x:Int) (hlen:l.length < 9223372036854775808) (H:PH) (v:Value) (hv:IntsH H v l):Cl Tryz.prog 156 [v,.int .i64 x] H emp fun r _ _=>r=.bool (l.contains x):=by
  obtain⟨base,cap,rfl⟩:=hv.sl
  refine Cl_of (pol:=polL) Γok Tryz.func156 (by kernel_rfl) rfl ?_
  conv=>whnf
  refine W_loop (pol:=polL) Γok (Nat × PH) (fun i=>i.1≤l.length∧Sub H i.2∧(l.take i.1).contains x=false) (fun i=>l.length - i.1) (fun i=>[(5,.v (.int .i64 i.1))]) (fun _=>[]) (fun i=>i.2) (fun _=>emp) ⟨(0,H),⟨by simp,Sub.refl _,rfl⟩,rfl,rfl,?_⟩ ?_
  · conv=>whnf
    repeat (refine⟨rfl,?_⟩;conv=>whnf)
    exact trivial
  rintro ⟨i,Hi⟩ ⟨h1i,hsi,hpi⟩
  dsimp only at h1i hsi hpi
  conv=>whnf
  refine if_intro (fun hci=>?_) (fun hci=>?_)
  · have hii:i < l.length:=by
      have:=of_decide_eq_true hci
      omega
    conv=>whnf
    obtain⟨b,off,rfl,hrd⟩:=(IntsH.up hv hsi).rd hii
    conv=>whnf
    refine dec_intro (by omega) ?_
    conv=>whnf
    refine⟨_,hrd emp,?_⟩
    conv=>whnf
    refine if_intro (fun hx=>?_) (fun hx=>?_)
    · conv=>whnf
      have:l.contains x=true:=by
        rw[List.contains_iff_mem]
        have hx:l[i]=x:=by simpa using hx
        rw[← hx]
        exact List.getElem_mem hii
      rw[this]
    conv=>whnf
    refine⟨(i+1,Hi),⟨by dsimp only;omega,hsi,by rw[contains_take hii,hpi,hx]<;>rfl⟩,by dsimp only;omega,?_⟩
    refine⟨rfl,rfl,?_⟩
    conv=>whnf
    repeat (refine⟨rfl,?_⟩;conv=>whnf)
    refine⟨by show En.v (.int .i64 (IntKind.i64.wrap (i+1)))=_;rw[wrap_id (by omega) (by omega)]<;>rfl,?_⟩
    conv=>whnf
    repeat (refine⟨rfl,?_⟩;conv=>whnf)
    exact trivial
  have hii:i=l.length:=by
    have:=of_decide_eq_false hci
    omega
  subst hii
  dsimp only
  conv=>whnf
  rw[List.take_length] at hpi
  rw[hpi]
end Go.Proofs.YtmhnalikebkhjaaGreatDoor

namespace Go.Proofs.YtmhnalikebkhjaaGreatDoor
open Go.Proofs.YtmhnalikebkhjaaGreatDoor.X Go.Proofs.YtmhnalikebkhjaaGreatDoor.X.PH
set_option maxRecDepth 100000
def gateErr (g : Gt) (w b:Int):Int:=
  if arityF g.kind=0 then 3 else if (g.ws.length:Int) ≠ arityF g.kind then 2 else if g.ws.all (inW w)=false then 1 else if twiceF g.ws=true then 5
  else if (offF g.cond 0 b || (g.kind == 13 && offF g.bit 0 (b - 1)))=true then 1 else if ((decide (g.kind ≥ 13) && g.cond != 0) || (g.kind != 13 && g.bit != 0))=true then 7 else 0
def gv (g : Gt) (w:Value):Value:=.agg ⟨[.int .i64 g.kind,w,.int .i64 g.bit,.int .i64 g.cond]⟩
theorem offF_inW (x w : Int):offF x 0 (w - 1)=!inW w x:=by
  unfold offF inW
  by_cases h1:x < 0
  · rw[decide_eq_true h1,decide_eq_false (show ¬ x ≥ 0 by omega)]<;>rfl
  · by_cases h2:x < w
    · rw[decide_eq_false h1,decide_eq_false (show ¬ x > w - 1 by omega),decide_eq_true (show x ≥ 0 by omega),decide_eq_true h2]<;>rfl
    · rw[decide_eq_true (show x > w - 1 by omega),decide_eq_false h2];simp
theorem twice_false {ws : List Int} (h:∀ q,q < ws.length→(ws.take q).contains (ws.getD q 0)=false):twiceF ws=false:=by
  unfold twiceF
  rw[List.any_eq_false]
  intro q hq
  rw[h q (List.mem_range.1 hq)]
  simp
theorem twice_true {ws : List Int} {i:Nat} (hi:i < ws.length) (h:(ws.take i).contains ws[i]=true):twiceF ws=true:=by
  unfold twiceF
  refine List.any_eq_true.2 ⟨i,List.mem_range.2 hi,?_⟩
  rw[List.getD_eq_getElem?_getD,List.getElem?_eq_getElem hi]
  exact h
theorem all_take {l : List Int} {p:Int→Bool} {i:Nat} (hi:i < l.length):(l.take (i+1)).all p=((l.take i).all p && p l[i]):=by
  rw[List.take_succ_eq_append_getElem hi,List.all_append]
  simp
theorem all_no {l : List Int} {p:Int→Bool} {i:Nat} (hi:i < l.length) (h:p l[i]=false):l.all p=false:=by
  rw[List.all_eq_false]
  exact⟨l[i],List.getElem_mem hi,by rw[h];simp⟩
def lastErr (g : Gt) (b:Int):Int:=
  if (offF g.cond 0 b || (g.kind == 13 && offF g.bit 0 (b - 1)))=true then 1 else if ((decide (g.kind ≥ 13) && g.cond != 0) || (g.kind != 13 && g.bit != 0))=true then 7 else 0
theorem d122 (g : Gt) (wires bits:Int) (h1:0≤wires∧wires≤1000) (h2:0≤bits∧bits≤1000) (hlen:g.ws.length < 9223372036854775808) (H:PH) (w:Value) (hw:IntsC H w g.ws) :
    Cl Tryz.prog 122 [gv g w,.int .i64 wires,.int .i64 bits] H emp fun r _ _=>r=.int .i64 (gateErr g wires bits):=by
  obtain⟨wb,wc,rfl,hwc,hw⟩:=hw
  refine Cl_of (pol:=polL) Γok Tryz.func122 (by kernel_rfl) rfl ?_
  conv=>whnf
  intro b3
  conv=>whnf
  refine (d112 g.kind _).val fun Ha sa=>?_
  conv=>whnf
  refine if_intro (fun ha=>?_) (fun ha=>?_)
  · conv=>whnf
    rw[show gateErr g wires bits=3 from if_pos (by simpa using ha)]
  replace ha:¬ arityF g.kind=0:=by simpa using ha
  conv=>whnf
  refine W_draw (pol:=polL) Γok mixes [(0,.pend),(1,.pend),(2,.pend),(3,.pendO),(4,.pendO),(5,.lock),(6,.pendO)] 86 (by kernel_rfl) rfl ?_
  conv=>whnf
  refine (d112 g.kind _).val fun Hb sb=>?_
  conv=>whnf
  refine if_intro (fun hb=>?_) (fun hb=>?_)
  · conv=>whnf
    rw[show gateErr g wires bits=2 by unfold gateErr;rw[if_neg ha,if_pos (by simpa using hb)]]
  replace hb:¬ ¬ (g.ws.length:Int)=arityF g.kind:=by simpa using hb
  conv=>whnf
  have hwb:=IntsH.up (IntsH.up hw sa) sb
  refine W_loop (pol:=polL) Γok (Nat × PH) (fun i=>i.1≤g.ws.length∧Sub Hb i.2∧(g.ws.take i.1).all (inW wires)=true) (fun i=>g.ws.length - i.1) (fun i=>[(7,.v (.int .i64 i.1))]) (fun _=>[]) (fun i=>i.2) (fun _=>emp) ⟨(0,Hb),⟨by simp,Sub.refl _,rfl⟩,rfl,rfl,?_⟩ ?_
  · conv=>whnf
    repeat (refine⟨rfl,?_⟩;conv=>whnf)
    exact trivial
  rintro ⟨i,Hi⟩ ⟨h1i,hsi,hpi⟩
  dsimp only at h1i hsi hpi
  conv=>whnf
  refine if_intro (fun hci=>?_) (fun hci=>?_)
  · have hii:i < g.ws.length:=by
      have:=of_decide_eq_true hci
      omega
    conv=>whnf
    obtain⟨bb,off,rfl,hrd⟩:=(IntsH.up hwb hsi).rd hii
    conv=>whnf
    refine dec_intro (by omega) ?_
    conv=>whnf
    refine⟨_,hrd emp,?_⟩
    conv=>whnf
    rw[wrap_id (n:=wires - 1) (by omega) (by omega)]
    refine (d121 g.ws[i] 0 (wires - 1) _).val fun H1 s1=>?_
    rw[offF_inW]
    conv=>whnf
    refine if_intro (fun hx=>?_) (fun hx=>?_)
    · conv=>whnf
      rw[show gateErr g wires bits=1 by unfold gateErr;rw[if_neg ha,if_neg hb,if_pos (all_no hii (by simpa using hx))]]
    conv=>whnf
    refine⟨(i+1,H1),⟨by dsimp only;omega,hsi.trans s1,by rw[all_take hii,hpi];simpa using hx⟩,by dsimp only;omega,?_⟩
    refine⟨rfl,rfl,?_⟩
    conv=>whnf
    repeat (refine⟨rfl,?_⟩;conv=>whnf)
    refine⟨by show En.v (.int .i64 (IntKind.i64.wrap (i+1)))=_;rw[wrap_id (by omega) (by omega)]<;>rfl,?_⟩
    conv=>whnf
    repeat (refine⟨rfl,?_⟩;conv=>whnf)
    exact trivial
  have hii:i=g.ws.length:=by
    have:=of_decide_eq_false hci
    omega
  subst hii
  dsimp only
  conv=>whnf
  rw[List.take_length] at hpi
  have hc3:¬ g.ws.all (inW wires)=false:=by rw[hpi];simp
  refine W_loop (pol:=polL) Γok (Nat × PH) (fun i=>i.1≤g.ws.length∧Sub Hi i.2∧∀ q,q < i.1→(g.ws.take q).contains (g.ws.getD q 0)=false) (fun i=>g.ws.length - i.1) (fun i=>[(8,.v (.int .i64 i.1))]) (fun _=>[]) (fun i=>i.2) (fun _=>emp) ⟨(0,Hi),⟨by simp,Sub.refl _,fun q hq=>by omega⟩,rfl,rfl,?_⟩ ?_
  · conv=>whnf
    repeat (refine⟨rfl,?_⟩;conv=>whnf)
    exact trivial
  rintro ⟨j,Hj⟩ ⟨h1j,hsj,hpj⟩
  dsimp only at h1j hsj hpj
  conv=>whnf
  refine if_intro (fun hcj=>?_) (fun hcj=>?_)
  · have hij:j < g.ws.length:=by
      have:=of_decide_eq_true hcj
      omega
    conv=>whnf
    obtain⟨bb,off,rfl,hrd⟩:=(IntsH.up hwb (hsi.trans hsj)).rd hij
    conv=>whnf
    refine W_draw (pol:=polL) Γok mixes [(0,.pendO),(1,.pendO),(2,.pendO),(3,.pendO),(4,.pendO),(5,.pendO),(6,.pendO),(7,.pendO),(8,.pendO),(9,.lock)] 86 (by kernel_rfl) rfl ?_
    conv=>whnf
    refine dec_intro (by omega) ?_
    conv=>whnf
    refine dec_intro (by omega) ?_
    conv=>whnf
    refine⟨_,hrd emp,?_⟩
    conv=>whnf
    refine (d156 (g.ws.take j) g.ws[j] (by rw[List.length_take];omega) _ _ (IntsH.pre (IntsH.up hwb (hsi.trans hsj)) (by omega) (by split<;>simp[Addr.add]) rfl)).val fun H1 s1=>?_
    conv=>whnf
    refine if_intro (fun hx=>?_) (fun hx=>?_)
    · conv=>whnf
      rw[show gateErr g wires bits=5 by unfold gateErr;rw[if_neg ha,if_neg hb,if_neg hc3,if_pos (twice_true hij hx)]]
    conv=>whnf
    refine⟨(j+1,H1),⟨by dsimp only;omega,hsj.trans s1,fun q hq=>by
        rcases Nat.lt_succ_iff_lt_or_eq.1 hq with h | rfl
        · exact hpj q h
        · rw[List.getD_eq_getElem?_getD,List.getElem?_eq_getElem hij];exact hx⟩,by dsimp only;omega,?_⟩
    refine⟨rfl,rfl,?_⟩
    conv=>whnf
    repeat (refine⟨rfl,?_⟩;conv=>whnf)
    refine⟨by show En.v (.int .i64 (IntKind.i64.wrap (j+1)))=_;rw[wrap_id (by omega) (by omega)]<;>rfl,?_⟩
    conv=>whnf
    repeat (refine⟨rfl,?_⟩;conv=>whnf)
    exact trivial
  have hij:j=g.ws.length:=by
    have:=of_decide_eq_false hcj
    omega
  subst hij
  dsimp only
  conv=>whnf
  have hc4:¬ twiceF g.ws=true:=by rw[twice_false hpj];simp
  rw[show gateErr g wires bits=lastErr g bits by unfold gateErr;rw[if_neg ha,if_neg hb,if_neg hc3,if_neg hc4];rfl]
  refine (d121 g.cond 0 bits _).val fun Hc sc=>?_
  conv=>whnf
  refine if_intro (fun h5=>?_) (fun h5=>?_)
  · conv=>whnf
    rw[show lastErr g bits=1 by simp[lastErr,h5]]
  conv=>whnf
  refine if_intro (fun h6=>?_) (fun h6=>?_)
  · conv=>whnf
    rw[wrap_id (n:=bits - 1) (by omega) (by omega)]
    refine (d121 g.bit 0 (bits - 1) _).val fun Hd sd=>?_
    conv=>whnf
    refine if_intro (fun h7=>?_) (fun h7=>?_)
    · conv=>whnf
      rw[show lastErr g bits=1 by simp[lastErr,h5,h6,h7]]
    conv=>whnf
    clear hwb hwc hw ha hb hc3 hc4 h1 h2 hlen sa sb
    repeat' (refine if_intro (fun h=>?_) (fun h=>?_)<;>conv=>whnf)
    all_goals (congr 1;simp_all [lastErr]<;>(intros;omega))
  conv=>whnf
  clear hwb hwc hw ha hb hc3 hc4 h1 h2 hlen sa sb
  repeat' (refine if_intro (fun h=>?_) (fun h=>?_)<;>conv=>whnf)
  all_goals (congr 1;simp_all [lastErr]<;>(intros;omega))
end Go.Proofs.YtmhnalikebkhjaaGreatDoor

namespace Go.Proofs.YtmhnalikebkhjaaGreatDoor
open Go.Proofs.YtmhnalikebkhjaaGreatDoor.X Go.Proofs.YtmhnalikebkhjaaGreatDoor.X.PH
set_option maxRecDepth 100000
def RecsH (H : PH) (sz:Nat) (v:Value) (cs:List (List Value)):Prop:=(∀ c∈cs,c.length=sz)∧SlH H v cs.length cs.flatten
theorem RecsH.up {H H' : PH} {sz:Nat} {v:Value} {cs:List (List Value)} (h:RecsH H sz v cs) (hs:Sub H H'):RecsH H' sz v cs:=⟨h.1,h.2.up hs⟩
theorem flat_at {sz : Nat}:∀ {cs:List (List Value)},(∀ c∈cs,c.length=sz)→∀ {i:Nat} (hi:i < cs.length),(cs.flatten.drop (i*sz)).take sz=cs[i]
  | [],_,i,hi=>absurd hi (by simp)
  | c::cs,h,0,_=>by
    have:=h c (by simp)
    simp[← this]
  | c::cs,h,i+1,hi=>by
    have hc:=h c (by simp)
    rw[List.flatten_cons,Nat.succ_mul,Nat.add_comm (i*sz) sz,← List.drop_drop,← hc,List.drop_left,hc]
    exact flat_at (fun c hc=>h c (by simp[hc])) (by simpa using hi)
theorem RecsH.rd {H : PH} {sz:Nat} {base:Option Addr} {n cap:Nat} {cs:List (List Value)} (h:RecsH H sz (.slice base n cap) cs) {i:Nat} (hi:i < cs.length) :
    ∃ b off,base=some ⟨b,off,none⟩∧∀ H' O,Sub H H'→Rd H' O ⟨b,off+i*sz,none⟩ sz cs[i]:=by
  obtain⟨h1,h2⟩:=h
  obtain⟨_,_,e,_⟩:=id h2
  cases e
  have hl:=flat_length h1
  obtain⟨b,off,hb,_⟩:=h2.rd (O:=emp) (sz:=sz) hl hi
  refine⟨b,off,hb,fun H' O hs=>?_⟩
  obtain⟨b',off',hb',hr⟩:=(h2.up hs).rd (O:=O) (sz:=sz) hl hi
  rw[hb] at hb'
  cases hb'
  rwa [flat_at h1 hi] at hr
theorem RecsH.sl {H : PH} {sz:Nat} {v:Value} {cs:List (List Value)} (h:RecsH H sz v cs):∃ base cap,v=.slice base cs.length cap:=by
  obtain⟨b,c,e,_⟩:=h.2
  exact⟨b,c,e⟩
def GateC (H : PH) (g:Gt) (c:List Value):Prop:=∃ w,c=[.int .i64 g.kind,w,.int .i64 g.bit,.int .i64 g.cond]∧IntsC H w g.ws
theorem GateC.up {H H' : PH} {g:Gt} {c:List Value} (h:GateC H g c) (hs:Sub H H'):GateC H' g c:=by
  obtain⟨w,e,h⟩:=h
  exact⟨w,e,h.up hs⟩
def GatesH (H : PH) (v:Value) (gs:List Gt):Prop:=∃ cs:List (List Value),cs.length=gs.length∧RecsH H 4 v cs∧∀ (i:Nat) g c,gs[i]?=some g→cs[i]?=some c→GateC H g c
theorem GatesH.up {H H' : PH} {v:Value} {gs:List Gt} (h:GatesH H v gs) (hs:Sub H H'):GatesH H' v gs:=by
  obtain⟨cs,h1,h2,h3⟩:=h
  exact⟨cs,h1,h2.up hs,fun i g c a b=>(h3 i g c a b).up hs⟩
theorem GatesH.sl {H : PH} {v:Value} {gs:List Gt} (h:GatesH H v gs):∃ base cap,v=.slice base gs.length cap:=by
  obtain⟨cs,h1,h2,_⟩:=h
  rw[← h1]
  exact h2.sl
theorem GatesH.rd {H : PH} {base:Option Addr} {n cap:Nat} {gs:List Gt} (h:GatesH H (.slice base n cap) gs) {i:Nat} (hi:i < gs.length) :
    ∃ b off w wb wc,base=some ⟨b,off,none⟩∧w=.slice wb gs[i].ws.length wc∧(∀ H' O,Sub H H'→Rd H' O ⟨b,off+i*4,none⟩ 4 [.int .i64 gs[i].kind,w,.int .i64 gs[i].bit,.int .i64 gs[i].cond])∧IntsC H w gs[i].ws:=by
  obtain⟨cs,h1,h2,h3⟩:=h
  obtain⟨b,off,hb,hr⟩:=h2.rd (i:=i) (by omega)
  obtain⟨w,e,hw⟩:=h3 i _ _ (List.getElem?_eq_getElem hi) (List.getElem?_eq_getElem (by omega))
  obtain⟨wb,wc,ew,_⟩:=id hw
  refine⟨b,off,w,wb,wc,hb,ew,fun H' O hs=>?_,hw⟩
  rw[← e]
  exact hr H' O hs
theorem d119 (xs : List Gt) (p:Gt→Bool) (H:PH) (v f:Value) (hv:GatesH H v xs) (hf:∀ x∈xs,∀ w,IntsC H w x.ws→Does Tryz.prog H f [gv x w] fun r _=>r=.bool (p x)) (hlen:xs.length < 9223372036854775808) :
    Cl Tryz.prog 119 [v,f] H emp fun r _ _=>r=.int .i64 (match xs.findIdx? p with | some i=>(i:Int) | none=>-1):=by
  obtain⟨base,cap,rfl⟩:=hv.sl
  refine Cl_of (pol:=polL) Γok Tryz.func119 (by kernel_rfl) rfl ?_
  conv=>whnf
  refine W_loop (pol:=polL) Γok (Nat × PH) (fun i=>i.1≤xs.length∧Sub H i.2∧∀ x∈xs.take i.1,p x=false) (fun i=>xs.length - i.1) (fun i=>[(8,.v (.int .i64 i.1))]) (fun _=>[]) (fun i=>i.2) (fun _=>emp) ⟨(0,H),⟨by simp,Sub.refl _,fun x hx=>by simp at hx⟩,rfl,rfl,?_⟩ ?_
  · conv=>whnf
    repeat (refine⟨rfl,?_⟩;conv=>whnf)
    exact trivial
  rintro ⟨i,Hi⟩ ⟨h1i,hsi,hpi⟩
  dsimp only at h1i hsi hpi
  conv=>whnf
  refine if_intro (fun hci=>?_) (fun hci=>?_)
  · have hii:i < xs.length:=by
      have:=of_decide_eq_true hci
      omega
    conv=>whnf
    obtain⟨b,off,w,wb,wc,rfl,hw,hrd,hwe⟩:=hv.rd hii
    subst hw
    conv=>whnf
    refine dec_intro (by omega) ?_
    conv=>whnf
    refine⟨_,hrd Hi emp hsi,?_⟩
    conv=>whnf
    refine ((hf xs[i] (List.getElem_mem hii) _ hwe).up hsi).use fun r H1 s1 hr=>?_
    subst hr
    conv=>whnf
    refine if_intro (fun hp=>?_) (fun hp=>?_)
    · conv=>whnf
      have:xs.findIdx? p=some i:=by
        rw[List.findIdx?_eq_some_iff_getElem]
        exact⟨hii,hp,fun j hj=>by
          have:=hpi xs[j] (List.mem_take_iff_getElem.2 ⟨j,by omega,rfl⟩)
          simp[this]⟩
      rw[this]
    conv=>whnf
    refine⟨(i+1,H1),⟨by dsimp only;omega,hsi.trans s1,fun x hx=>by
        rw[List.take_succ_eq_append_getElem hii] at hx
        rcases List.mem_append.1 hx with hx | hx
        · exact hpi x hx
        · simp at hx;rw[hx];exact hp⟩,by dsimp only;omega,?_⟩
    refine⟨rfl,rfl,?_⟩
    conv=>whnf
    repeat (refine⟨rfl,?_⟩;conv=>whnf)
    refine⟨by show En.v (.int .i64 (IntKind.i64.wrap (i+1)))=_;rw[wrap_id (by omega) (by omega)]<;>rfl,?_⟩
    conv=>whnf
    repeat (refine⟨rfl,?_⟩;conv=>whnf)
    exact trivial
  have hii:i=xs.length:=by
    have:=of_decide_eq_false hci
    omega
  subst hii
  dsimp only
  conv=>whnf
  have:xs.findIdx? p=none:=by
    rw[List.findIdx?_eq_none_iff]
    intro x hx
    exact hpi x (by rw[List.take_length];exact hx)
  rw[this]
theorem d80 (xs : List Gt) (p:Gt→Bool) (H:PH) (v f:Value) (hv:GatesH H v xs) (hf:∀ x∈xs,∀ w,IntsC H w x.ws→Does Tryz.prog H f [gv x w] fun r _=>r=.bool (p x)) (hlen:xs.length < 9223372036854775808) :
    Cl Tryz.prog 80 [v,f] H emp fun r _ _=>r=.bool (xs.any p):=by
  refine Cl_of (pol:=polL) Γok Tryz.func80 (by kernel_rfl) rfl ?_
  conv=>whnf
  refine (d119 xs p H v f hv hf hlen).val fun H' hs=>?_
  conv=>whnf
  congr 1
  cases h:xs.findIdx? p with
  | none=>
    rw[List.findIdx?_eq_none_iff] at h
    have:xs.any p=false:=by simpa using h
    rw[this]<;>rfl
  | some i=>
    rw[List.findIdx?_eq_some_iff_getElem] at h
    obtain⟨hi,hp,_⟩:=h
    have:xs.any p=true:=List.any_eq_true.2 ⟨_,List.getElem_mem hi,hp⟩
    rw[this]
    simp
theorem d175 (xs : List (P4 × Int)) (p:(P4 × Int)→Bool) (H:PH) (v f:Value) (hv:NumH H v xs) (hf:∀ x∈xs,Does Tryz.prog H f [nv x] fun r _=>r=.bool (p x)) (hlen:xs.length < 9223372036854775808) :
    Cl Tryz.prog 175 [v,f] H emp fun r _ _=>r=.int .i64 (match xs.findIdx? p with | some i=>(i:Int) | none=>-1):=by
  obtain⟨base,cap,rfl,_⟩:=id hv
  refine Cl_of (pol:=polL) Γok Tryz.func175 (by kernel_rfl) rfl ?_
  conv=>whnf
  refine W_loop (pol:=polL) Γok (Nat × PH) (fun i=>i.1≤xs.length∧Sub H i.2∧∀ x∈xs.take i.1,p x=false) (fun i=>xs.length - i.1) (fun i=>[(8,.v (.int .i64 i.1))]) (fun _=>[]) (fun i=>i.2) (fun _=>emp) ⟨(0,H),⟨by simp,Sub.refl _,fun x hx=>by simp at hx⟩,rfl,rfl,?_⟩ ?_
  · conv=>whnf
    repeat (refine⟨rfl,?_⟩;conv=>whnf)
    exact trivial
  rintro ⟨i,Hi⟩ ⟨h1i,hsi,hpi⟩
  dsimp only at h1i hsi hpi
  conv=>whnf
  refine if_intro (fun hci=>?_) (fun hci=>?_)
  · have hii:i < xs.length:=by
      have:=of_decide_eq_true hci
      omega
    conv=>whnf
    obtain⟨_,b,off,rfl,hrd⟩:=(NumH.up hv hsi).rd (O:=emp) hii
    conv=>whnf
    refine dec_intro (by omega) ?_
    conv=>whnf
    refine⟨_,hrd,?_⟩
    conv=>whnf
    refine ((hf xs[i] (List.getElem_mem hii)).up hsi).use fun r H1 s1 hr=>?_
    subst hr
    conv=>whnf
    refine if_intro (fun hp=>?_) (fun hp=>?_)
    · conv=>whnf
      have:xs.findIdx? p=some i:=by
        rw[List.findIdx?_eq_some_iff_getElem]
        exact⟨hii,hp,fun j hj=>by
          have:=hpi xs[j] (List.mem_take_iff_getElem.2 ⟨j,by omega,rfl⟩)
          simp[this]⟩
      rw[this]
    conv=>whnf
    refine⟨(i+1,H1),⟨by dsimp only;omega,hsi.trans s1,fun x hx=>by
        rw[List.take_succ_eq_append_getElem hii] at hx
        rcases List.mem_append.1 hx with hx | hx
        · exact hpi x hx
        · simp at hx;rw[hx];exact hp⟩,by dsimp only;omega,?_⟩
    refine⟨rfl,rfl,?_⟩
    conv=>whnf
    repeat (refine⟨rfl,?_⟩;conv=>whnf)
    refine⟨by show En.v (.int .i64 (IntKind.i64.wrap (i+1)))=_;rw[wrap_id (by omega) (by omega)]<;>rfl,?_⟩
    conv=>whnf
    repeat (refine⟨rfl,?_⟩;conv=>whnf)
    exact trivial
  have hii:i=xs.length:=by
    have:=of_decide_eq_false hci
    omega
  subst hii
  dsimp only
  conv=>whnf
  have:xs.findIdx? p=none:=by
    rw[List.findIdx?_eq_none_iff]
    intro x hx
    exact hpi x (by rw[List.take_length];exact hx)
  rw[this]
theorem d149 (xs : List (P4 × Int)) (p:(P4 × Int)→Bool) (H:PH) (v f:Value) (hv:NumH H v xs) (hf:∀ x∈xs,Does Tryz.prog H f [nv x] fun r _=>r=.bool (p x)) (hlen:xs.length < 9223372036854775808) :
    Cl Tryz.prog 149 [v,f] H emp fun r _ _=>r=.bool (xs.any p):=by
  refine Cl_of (pol:=polL) Γok Tryz.func149 (by kernel_rfl) rfl ?_
  conv=>whnf
  refine (d175 xs p H v f hv hf hlen).val fun H' hs=>?_
  conv=>whnf
  congr 1
  cases h:xs.findIdx? p with
  | none=>
    rw[List.findIdx?_eq_none_iff] at h
    have:xs.any p=false:=by simpa using h
    rw[this]<;>rfl
  | some i=>
    rw[List.findIdx?_eq_some_iff_getElem] at h
    obtain⟨hi,hp,_⟩:=h
    have:xs.any p=true:=List.any_eq_true.2 ⟨_,List.getElem_mem hi,hp⟩
    rw[this]
    simp
theorem d150 (x : (P4 × Int)) (q:Bool) (H:PH) (b:Nat) (f:Value) (t:TypeId) (hb:H b=some (.cells ⟨[f]⟩ t (0,0))) (hf:Does Tryz.prog H f [nv x] fun r _=>r=.bool q) :
    Cl Tryz.prog 150 [nv x,.pointer (some ⟨b,0,none⟩)] H emp fun r _ _=>r=.bool (!q):=by
  refine Cl_of (pol:=polL) Γok Tryz.func150 (by kernel_rfl) rfl ?_
  conv=>whnf
  intro b2
  conv=>whnf
  refine⟨_,Rd.whole hb,?_⟩
  conv=>whnf
  refine hf.use fun r H' hs hr=>?_
  subst hr
  conv=>whnf
theorem d108 (xs : List (P4 × Int)) (p:(P4 × Int)→Bool) (H:PH) (v:Value) (fn:Fn) (first cap:Array Value) (hv:NumH H v xs) (hf:∀ x∈xs,Does Tryz.prog H (.func fn first cap) [nv x] fun r _=>r=.bool (p x)) (hlen:xs.length < 9223372036854775808) :
    Cl Tryz.prog 108 [v,.func fn first cap] H emp fun r _ _=>r=.bool (xs.all p):=by
  obtain⟨base,cp,rfl,hv'⟩:=id hv
  refine Cl_of (pol:=(fun | 3=>.imm | _=>.loc)) Γok Tryz.func108 (by kernel_rfl) rfl ?_
  conv=>whnf
  intro b hb hO
  conv=>whnf
  have hs:=sub_ins H (.cells ⟨[.func fn first cap]⟩ 125 (0,0)) hb
  refine (d149 xs (fun x=>!p x) _ _ _ (NumH.up hv hs) (fun x hx=>⟨150,[],[_],rfl,fun H' hs'=>d150 x (p x) H' b (.func fn first cap) _ (hs' _ _ (ins_same _ _ _)) ((hf x hx).up (hs.trans hs'))⟩) (by omega)).val fun H' _=>?_
  conv=>whnf
  congr 1
  simp[List.not_any_eq_all_not]
theorem d180 (x : Int) (q:Bool) (H:PH) (b:Nat) (f:Value) (t:TypeId) (hb:H b=some (.cells ⟨[f]⟩ t (0,0))) (hf:Does Tryz.prog H f [.int .i64 x] fun r _=>r=.bool q) :
    Cl Tryz.prog 180 [.int .i64 x,.pointer (some ⟨b,0,none⟩)] H emp fun r _ _=>r=.bool (!q):=by
  refine Cl_of (pol:=polL) Γok Tryz.func180 (by kernel_rfl) rfl ?_
  conv=>whnf
  refine⟨_,Rd.whole hb,?_⟩
  conv=>whnf
  refine hf.use fun r H' hs hr=>?_
  subst hr
  conv=>whnf
theorem d161 (xs : List Int) (p:Int→Bool) (H:PH) (v:Value) (fn:Fn) (first cap:Array Value) (hv:IntsH H v xs) (hf:∀ x∈xs,Does Tryz.prog H (.func fn first cap) [.int .i64 x] fun r _=>r=.bool (p x)) (hlen:xs.length < 9223372036854775808) :
    Cl Tryz.prog 161 [v,.func fn first cap] H emp fun r _ _=>r=.bool (xs.all p):=by
  obtain⟨base,cp,rfl,hv'⟩:=id hv
  refine Cl_of (pol:=(fun | 3=>.imm | _=>.loc)) Γok Tryz.func161 (by kernel_rfl) rfl ?_
  conv=>whnf
  intro b hb hO
  conv=>whnf
  have hs:=sub_ins H (.cells ⟨[.func fn first cap]⟩ 101 (0,0)) hb
  refine (c147 xs (fun x=>!p x) _ _ _ (IntsH.up hv hs) (fun x hx=>⟨180,[],[_],rfl,fun H' hs'=>d180 x (p x) H' b (.func fn first cap) _ (hs' _ _ (ins_same _ _ _)) ((hf x hx).up (hs.trans hs'))⟩) (by omega)).val fun H' _=>?_
  conv=>whnf
  congr 1
  simp[List.not_any_eq_all_not]
theorem d107 (x : Int) (q:Bool) (H:PH) (b:Nat) (f:Value) (t:TypeId) (hb:H b=some (.cells ⟨[f]⟩ t (0,0))) (hf:Does Tryz.prog H f [.int .i64 x] fun r _=>r=.bool q) :
    Cl Tryz.prog 107 [.int .i64 x,.pointer (some ⟨b,0,none⟩)] H emp fun r _ _=>r=.bool (!q):=by
  refine Cl_of (pol:=polL) Γok Tryz.func107 (by kernel_rfl) rfl ?_
  conv=>whnf
  refine⟨_,Rd.whole hb,?_⟩
  conv=>whnf
  refine hf.use fun r H' hs hr=>?_
  subst hr
  conv=>whnf
theorem d63 (xs : List Int) (p:Int→Bool) (H:PH) (v:Value) (fn:Fn) (first cap:Array Value) (hv:IntsH H v xs) (hf:∀ x∈xs,Does Tryz.prog H (.func fn first cap) [.int .i64 x] fun r _=>r=.bool (p x)) (hlen:xs.length < 9223372036854775808) :
    Cl Tryz.prog 63 [v,.func fn first cap] H emp fun r _ _=>r=.bool (xs.all p):=by
  obtain⟨base,cp,rfl,hv'⟩:=id hv
  refine Cl_of (pol:=(fun | 3=>.imm | _=>.loc)) Γok Tryz.func63 (by kernel_rfl) rfl ?_
  conv=>whnf
  intro b hb hO
  conv=>whnf
  have hs:=sub_ins H (.cells ⟨[.func fn first cap]⟩ 101 (0,0)) hb
  refine (c147 xs (fun x=>!p x) _ _ _ (IntsH.up hv hs) (fun x hx=>⟨107,[],[_],rfl,fun H' hs'=>d107 x (p x) H' b (.func fn first cap) _ (hs' _ _ (ins_same _ _ _)) ((hf x hx).up (hs.trans hs'))⟩) (by omega)).val fun H' _=>?_
  conv=>whnf
  congr 1
  simp[List.not_any_eq_all_not]
theorem d179 (x : Gt) (q:Bool) (H:PH) (b:Nat) (f w:Value) (t:TypeId) (hw:IntsC H w x.ws) (hb:H b=some (.cells ⟨[f]⟩ t (0,0))) (hf:Does Tryz.prog H f [gv x w] fun r _=>r=.bool q) :
    Cl Tryz.prog 179 [gv x w,.pointer (some ⟨b,0,none⟩)] H emp fun r _ _=>r=.bool (!q):=by
  obtain⟨wb,wc,rfl,_⟩:=id hw
  refine Cl_of (pol:=polL) Γok Tryz.func179 (by kernel_rfl) rfl ?_
  conv=>whnf
  intro b2
  conv=>whnf
  refine⟨_,Rd.whole hb,?_⟩
  conv=>whnf
  refine hf.use fun r H' hs hr=>?_
  subst hr
  conv=>whnf
theorem d158 (xs : List Gt) (p:Gt→Bool) (H:PH) (v:Value) (fn:Fn) (first cap:Array Value) (hv:GatesH H v xs) (hf:∀ x∈xs,∀ H',Sub H H'→∀ w,IntsC H' w x.ws→Does Tryz.prog H' (.func fn first cap) [gv x w] fun r _=>r=.bool (p x)) (hlen:xs.length < 9223372036854775808) :
    Cl Tryz.prog 158 [v,.func fn first cap] H emp fun r _ _=>r=.bool (xs.all p):=by
  obtain⟨base,cp,rfl⟩:=hv.sl
  refine Cl_of (pol:=(fun | 3=>.imm | _=>.loc)) Γok Tryz.func158 (by kernel_rfl) rfl ?_
  conv=>whnf
  intro b hb hO
  conv=>whnf
  have hs:=sub_ins H (.cells ⟨[.func fn first cap]⟩ 112 (0,0)) hb
  refine (d80 xs (fun x=>!p x) _ _ _ (hv.up hs) (fun x hx w hw=>⟨179,[],[_],rfl,fun H' hs'=>d179 x (p x) H' b (.func fn first cap) w _ (hw.up hs') (hs' _ _ (ins_same _ _ _)) ((hf x hx _ hs w hw).up hs')⟩) (by omega)).val fun H' _=>?_
  conv=>whnf
  congr 1
  simp[List.not_any_eq_all_not]
end Go.Proofs.YtmhnalikebkhjaaGreatDoor

namespace Go.Proofs.YtmhnalikebkhjaaGreatDoor
open Go.Proofs.YtmhnalikebkhjaaGreatDoor.X Go.Proofs.YtmhnalikebkhjaaGreatDoor.X.PH
set_option maxRecDepth 100000
theorem d160 (w n : Int) (H:PH) (b:Nat) (x y z:Value) (t:TypeId) (hb:H b=some (.cells ⟨[.int .i64 n,x,y,z]⟩ t (0,0))):Cl Tryz.prog 160 [.int .i64 w,.pointer (some ⟨b,0,none⟩)] H emp fun r _ _=>r=.bool (inW n w):=by
  refine Cl_of (pol:=polL) Γok Tryz.func160 (by kernel_rfl) rfl ?_
  conv=>whnf
  unfold inW
  refine if_intro (fun h=>?_) (fun h=>?_)
  · conv=>whnf
    refine⟨_,⟨rfl,rfl,_,_,_,.inl hb,rfl⟩,?_⟩
    conv=>whnf
    rw[h]
    rfl
  · conv=>whnf
    rw[h]
    rfl
theorem kind_le {k : Int} (h:¬ arityF k=0):1≤k∧k≤14:=by
  unfold arityF at h
  by_cases h1:k=12
  · omega
  rw[if_neg h1] at h
  by_cases h2:9≤k∧k≤11
  · omega
  rw[if_neg h2] at h
  by_cases h3:1≤k∧k≤14
  · exact h3
  · rw[if_neg h3] at h;exact absurd rfl h
def wkv (wires bits : Int) (gs:Value):Value:=.agg ⟨[.int .i64 wires,.int .i64 bits,gs,.nilFunc]⟩
theorem d129 (g : Gt) (wires bits:Int) (gsb:Option Addr) (gsn gsc:Nat) (h1:0≤wires∧wires≤1000) (h2:0≤bits∧bits≤1000) (hlen:g.ws.length < 9223372036854775808) (H:PH) (w:Value) (hw:IntsC H w g.ws) :
    Cl Tryz.prog 129 [wkv wires bits (.slice gsb gsn gsc),gv g w] H emp fun r _ _=>r=.int .i64 (gateErr g wires bits):=by
  obtain⟨wb,wc,rfl,hwc,hw⟩:=hw
  refine Cl_of (pol:=(fun | 2=>.imm | _=>.loc)) Γok Tryz.func129 (by kernel_rfl) rfl ?_
  conv=>whnf
  intro b2 hb2 hO2
  conv=>whnf
  intro b3
  conv=>whnf
  have sw:=sub_ins H (.cells ⟨[.int .i64 wires,.int .i64 bits,.slice gsb gsn gsc,.nilFunc]⟩ 142 (0,0)) hb2
  refine (d75 g.kind _).val fun Ha sa=>?_
  conv=>whnf
  refine if_intro (fun ha=>?_) (fun ha=>?_)
  · conv=>whnf
    rw[show gateErr g wires bits=3 from if_pos (by simpa using ha)]
  replace ha:¬ arityF g.kind=0:=by simpa using ha
  have hk:=kind_le ha
  conv=>whnf
  refine W_draw (pol:=(fun | 2=>.imm | _=>.loc)) Γok mixes [(0,.pend),(1,.pend),(2,.pend),(3,.pendO),(4,.pendO),(5,.lock),(6,.pendO),(7,.pendO)] 96 (by kernel_rfl) rfl ?_
  conv=>whnf
  refine (d75 g.kind _).val fun Hb sb=>?_
  conv=>whnf
  refine if_intro (fun hb=>?_) (fun hb=>?_)
  · conv=>whnf
    rw[show gateErr g wires bits=2 by unfold gateErr;rw[if_neg ha,if_pos (by simpa using hb)]]
  replace hb:¬ ¬ (g.ws.length:Int)=arityF g.kind:=by simpa using hb
  conv=>whnf
  have hwb:=IntsH.up (IntsH.up (IntsH.up hw sw) sa) sb
  have hbw:=sb _ _ (sa _ _ (ins_same H b2 (.cells ⟨[.int .i64 wires,.int .i64 bits,.slice gsb gsn gsc,.nilFunc]⟩ 142 (0,0))))
  refine (d161 g.ws (inW wires) _ _ _ _ _ hwb (fun x hx=>⟨160,[],[_],rfl,fun H' hs'=>d160 x wires H' _ _ _ _ _ (hs' _ _ hbw)⟩) (by omega)).val fun Hc sc=>?_
  conv=>whnf
  refine if_intro (fun h3=>?_) (fun h3=>?_)
  · conv=>whnf
    rw[show gateErr g wires bits=1 by unfold gateErr;rw[if_neg ha,if_neg hb,if_pos (by simpa using h3)]]
  have hc3:¬ g.ws.all (inW wires)=false:=by simpa using h3
  conv=>whnf
  have hwc2:=IntsH.up hwb sc
  refine W_loop (pol:=(fun | 2=>.imm | _=>.loc)) Γok (Nat × PH) (fun i=>i.1≤g.ws.length∧Sub Hc i.2∧∀ q,q < i.1→(g.ws.take q).contains (g.ws.getD q 0)=false) (fun i=>g.ws.length - i.1) (fun i=>[(32,.v (.int .i64 i.1))]) (fun _=>[]) (fun i=>i.2) (fun _=>emp) ⟨(0,Hc),⟨by simp,Sub.refl _,fun q hq=>by omega⟩,rfl,rfl,?_⟩ ?_
  · conv=>whnf
    repeat (refine⟨rfl,?_⟩;conv=>whnf)
    exact trivial
  rintro ⟨j,Hj⟩ ⟨h1j,hsj,hpj⟩
  dsimp only at h1j hsj hpj
  conv=>whnf
  refine if_intro (fun hcj=>?_) (fun hcj=>?_)
  · have hij:j < g.ws.length:=by
      have:=of_decide_eq_true hcj
      omega
    conv=>whnf
    obtain⟨bb,off,rfl,hrd⟩:=(IntsH.up hwc2 hsj).rd hij
    conv=>whnf
    refine dec_intro (by omega) ?_
    conv=>whnf
    refine⟨_,hrd emp,?_⟩
    conv=>whnf
    refine dec_intro (by omega) ?_
    conv=>whnf
    refine (c78 (g.ws.take j) g.ws[j] (by rw[List.length_take];omega) _ _ (IntsH.pre (IntsH.up hwc2 hsj) (by omega) (by split<;>simp[Addr.add]) rfl)).val fun H1 s1=>?_
    conv=>whnf
    refine if_intro (fun hx=>?_) (fun hx=>?_)
    · conv=>whnf
      rw[show gateErr g wires bits=5 by unfold gateErr;rw[if_neg ha,if_neg hb,if_neg hc3,if_pos (twice_true hij hx)]]
    conv=>whnf
    refine⟨(j+1,H1),⟨by dsimp only;omega,hsj.trans s1,fun q hq=>by
        rcases Nat.lt_succ_iff_lt_or_eq.1 hq with h | rfl
        · exact hpj q h
        · rw[List.getD_eq_getElem?_getD,List.getElem?_eq_getElem hij];exact hx⟩,by dsimp only;omega,?_⟩
    refine⟨rfl,rfl,?_⟩
    conv=>whnf
    repeat (refine⟨rfl,?_⟩;conv=>whnf)
    refine⟨by show En.v (.int .i64 (IntKind.i64.wrap (j+1)))=_;rw[wrap_id (by omega) (by omega)]<;>rfl,?_⟩
    conv=>whnf
    repeat (refine⟨rfl,?_⟩;conv=>whnf)
    exact trivial
  have hij:j=g.ws.length:=by
    have:=of_decide_eq_false hcj
    omega
  subst hij
  dsimp only
  conv=>whnf
  have hc4:¬ twiceF g.ws=true:=by rw[twice_false hpj];simp
  rw[show gateErr g wires bits=lastErr g bits by unfold gateErr;rw[if_neg ha,if_neg hb,if_neg hc3,if_neg hc4];rfl]
  have hbx:=hsj _ _ (sc _ _ hbw)
  clear hwb hwc hw hb hc3 hc4 h1 hlen sa sb hwc2 hpj
  repeat' (first | (refine if_intro (fun h=>?_) (fun h=>?_)<;>conv=>whnf) | (refine⟨_,⟨rfl,rfl,_,_,_,.inl hbx,rfl⟩,?_⟩;conv=>whnf))
  all_goals (congr 1;simp_all [lastErr,offF]<;>(intros;omega))
end Go.Proofs.YtmhnalikebkhjaaGreatDoor

namespace Go.Proofs.YtmhnalikebkhjaaGreatDoor
open Go.Proofs.YtmhnalikebkhjaaGreatDoor.X Go.Proofs.YtmhnalikebkhjaaGreatDoor.X.PH
set_option maxRecDepth 100000
structure Ct where
  wires:Int
  bits:Int
  gates:List Gt
def Ct.fit (c : Ct):Prop:=c.gates.length≤100000∧∀ g∈c.gates,g.ws.length≤100000
def circErr (c : Ct):Int:=if (offF c.wires 1 12 || offF c.bits 0 8)=true then 3 else if c.gates.length > 120 then 2 else firstErr (c.gates.map fun g=>gateErr g c.wires c.bits)
def cv (c : Ct) (gs:Value):Value:=.agg ⟨[.int .i64 c.wires,.int .i64 c.bits,gs]⟩
def CircH (H : PH) (v:Value) (c:Ct):Prop:=∃ gs,v=cv c gs∧GatesH H gs c.gates
theorem CircH.up {H H' : PH} {v:Value} {c:Ct} (h:CircH H v c) (hs:Sub H H'):CircH H' v c:=by
  obtain⟨gs,e,h⟩:=h
  exact⟨gs,e,h.up hs⟩
theorem CircH.sl {H : PH} {v:Value} {c:Ct} (h:CircH H v c):∃ gb gc,v=cv c (.slice gb c.gates.length gc)∧GatesH H (.slice gb c.gates.length gc) c.gates:=by
  obtain⟨gs,e,h⟩:=h
  obtain⟨gb,gc,rfl⟩:=h.sl
  exact⟨gb,gc,e,h⟩
theorem circ_in {c : Ct} (h:¬ (offF c.wires 1 12 || offF c.bits 0 8)=true):(1≤c.wires∧c.wires≤12)∧(0≤c.bits∧c.bits≤8):=by
  unfold offF at h
  simp at h
  omega
theorem first_at {f : Gt→Int} {l:List Gt} {i:Nat} (hi:i < l.length) (h:firstErr ((l.drop i).map f)=firstErr (l.map f)) (hn:f l[i] ≠ 0):firstErr (l.map f)=f l[i]:=by
  rw[← h,firstErr_step f hi,if_neg hn]
theorem first_on {f : Gt→Int} {l:List Gt} {i:Nat} (hi:i < l.length) (h:firstErr ((l.drop i).map f)=firstErr (l.map f)) (hn:f l[i]=0):firstErr ((l.drop (i+1)).map f)=firstErr (l.map f):=by
  rw[← h,firstErr_step f hi,if_pos hn]
theorem first_end {f : Gt→Int} {l:List Gt} (h:firstErr ((l.drop l.length).map f)=firstErr (l.map f)):firstErr (l.map f)=0:=by
  rw[← h,List.drop_length]
  rfl
theorem d84 (c : Ct) (hc:c.fit) (H:PH) (v:Value) (hv:CircH H v c):Cl Tryz.prog 84 [v] H emp fun r _ _=>r=.int .i64 (circErr c):=by
  obtain⟨gb,gc,rfl,hg⟩:=hv.sl
  refine Cl_of (pol:=polL) Γok Tryz.func84 (by kernel_rfl) rfl ?_
  conv=>whnf
  intro b1
  conv=>whnf
  refine (d121 c.wires 1 12 _).val fun Ha sa=>?_
  conv=>whnf
  have e3:(offF c.wires 1 12 || offF c.bits 0 8)=true→circErr c=3:=fun h=>if_pos h
  refine if_intro (fun ha=>?_) (fun ha=>?_)
  · conv=>whnf
    rw[e3 (by rw[ha]<;>rfl)]
  conv=>whnf
  refine (d121 c.bits 0 8 _).val fun Hb sb=>?_
  conv=>whnf
  refine if_intro (fun hb=>?_) (fun hb=>?_)
  · conv=>whnf
    rw[e3 (by rw[hb,Bool.or_true])]
  conv=>whnf
  have h3:¬ (offF c.wires 1 12 || offF c.bits 0 8)=true:=by rw[ha,hb];simp
  have hin:=circ_in h3
  refine if_intro (fun h4=>?_) (fun h4=>?_)
  · conv=>whnf
    have h4:=of_decide_eq_true h4
    rw[show circErr c=2 by unfold circErr;rw[if_neg h3,if_pos (by omega)]]
  conv=>whnf
  have h4:=of_decide_eq_false h4
  have e0:circErr c=firstErr (c.gates.map fun g=>gateErr g c.wires c.bits):=by unfold circErr;rw[if_neg h3,if_neg (by omega)]
  refine W_loop (pol:=polL) Γok (Nat × PH) (fun i=>i.1≤c.gates.length∧Sub Hb i.2∧firstErr ((c.gates.drop i.1).map (fun g=>gateErr g c.wires c.bits))=firstErr (c.gates.map (fun g=>gateErr g c.wires c.bits))) (fun i=>c.gates.length - i.1) (fun i=>[(3,.v (.int .i64 i.1))]) (fun _=>[]) (fun i=>i.2) (fun _=>emp) ⟨(0,Hb),⟨by simp,Sub.refl _,rfl⟩,rfl,rfl,?_⟩ ?_
  · conv=>whnf
    repeat (refine⟨rfl,?_⟩;conv=>whnf)
    exact trivial
  rintro ⟨i,Hi⟩ ⟨h1i,hsi,hpi⟩
  dsimp only at h1i hsi hpi
  conv=>whnf
  refine if_intro (fun hci=>?_) (fun hci=>?_)
  · have hii:i < c.gates.length:=by
      have:=of_decide_eq_true hci
      omega
    conv=>whnf
    obtain⟨b,off,w,wb,wc,rfl,hw,hrd,hwe⟩:=hg.rd hii
    subst hw
    conv=>whnf
    refine W_draw (pol:=polL) Γok mixes [(0,.pendO),(1,.pendO),(2,.pendO),(3,.pendO),(4,.pendO),(5,.pendO),(6,.pendO),(7,.pendO),(8,.pendO),(9,.lock),(10,.pendO)] 37 (by kernel_rfl) rfl ?_
    conv=>whnf
    refine dec_intro (by omega) ?_
    conv=>whnf
    refine⟨_,hrd Hi emp ((sa.trans sb).trans hsi),?_⟩
    conv=>whnf
    refine (d122 c.gates[i] c.wires c.bits (by omega) (by omega) (by have:=hc.2 _ (List.getElem_mem hii);omega) _ _ (hwe.up ((sa.trans sb).trans hsi))).val fun H1 s1=>?_
    conv=>whnf
    refine if_intro (fun hx=>?_) (fun hx=>?_)
    · conv=>whnf
      rw[e0,first_at hii hpi (by simpa using hx)]
    conv=>whnf
    refine⟨(i+1,H1),⟨by dsimp only;omega,hsi.trans s1,first_on hii hpi (by simpa using hx)⟩,by dsimp only;omega,?_⟩
    refine⟨rfl,rfl,?_⟩
    conv=>whnf
    repeat (refine⟨rfl,?_⟩;conv=>whnf)
    refine⟨by show En.v (.int .i64 (IntKind.i64.wrap (i+1)))=_;rw[wrap_id (by omega) (by omega)]<;>rfl,?_⟩
    conv=>whnf
    repeat (refine⟨rfl,?_⟩;conv=>whnf)
    exact trivial
  have hii:i=c.gates.length:=by
    have:=of_decide_eq_false hci
    omega
  subst hii
  dsimp only
  conv=>whnf
  rw[e0,first_end hpi]
theorem d88 (c : Ct) (hc:c.fit) (H:PH) (v:Value) (hv:CircH H v c):Cl Tryz.prog 88 [v] H emp fun r _ _=>r=.int .i64 (circErr c):=by
  obtain⟨gb,gc,rfl,hg⟩:=hv.sl
  refine Cl_of (pol:=polL) Γok Tryz.func88 (by kernel_rfl) rfl ?_
  conv=>whnf
  intro b1
  conv=>whnf
  have e3:(offF c.wires 1 12 || offF c.bits 0 8)=true→circErr c=3:=fun h=>if_pos h
  refine if_intro (fun ha=>?_) (fun ha=>?_)
  · conv=>whnf
    rw[e3 (by unfold offF;rw[ha]<;>rfl)]
  conv=>whnf
  refine if_intro (fun hb=>?_) (fun hb=>?_)
  · conv=>whnf
    rw[e3 (by unfold offF;rw[hb,Bool.or_true]<;>rfl)]
  conv=>whnf
  refine if_intro (fun hcc=>?_) (fun hcc=>?_)
  · conv=>whnf
    rw[e3 (by unfold offF;rw[hcc];simp)]
  conv=>whnf
  refine if_intro (fun hd=>?_) (fun hd=>?_)
  · conv=>whnf
    rw[e3 (by unfold offF;rw[hd];simp)]
  conv=>whnf
  have h3:¬ (offF c.wires 1 12 || offF c.bits 0 8)=true:=by unfold offF;rw[ha,hb,hcc,hd];simp
  have hin:=circ_in h3
  refine if_intro (fun h4=>?_) (fun h4=>?_)
  · conv=>whnf
    have h4:=of_decide_eq_true h4
    rw[show circErr c=2 by unfold circErr;rw[if_neg h3,if_pos (by omega)]]
  conv=>whnf
  have h4:=of_decide_eq_false h4
  have e0:circErr c=firstErr (c.gates.map fun g=>gateErr g c.wires c.bits):=by unfold circErr;rw[if_neg h3,if_neg (by omega)]
  refine W_loop (pol:=polL) Γok (Nat × PH) (fun i=>i.1≤c.gates.length∧Sub H i.2∧firstErr ((c.gates.drop i.1).map (fun g=>gateErr g c.wires c.bits))=firstErr (c.gates.map (fun g=>gateErr g c.wires c.bits))) (fun i=>c.gates.length - i.1) (fun i=>[(37,.v (.int .i64 i.1))]) (fun _=>[]) (fun i=>i.2) (fun _=>emp) ⟨(0,H),⟨by simp,Sub.refl _,rfl⟩,rfl,rfl,?_⟩ ?_
  · conv=>whnf
    repeat (refine⟨rfl,?_⟩;conv=>whnf)
    exact trivial
  rintro ⟨i,Hi⟩ ⟨h1i,hsi,hpi⟩
  dsimp only at h1i hsi hpi
  conv=>whnf
  refine if_intro (fun hci=>?_) (fun hci=>?_)
  · have hii:i < c.gates.length:=by
      have:=of_decide_eq_true hci
      omega
    conv=>whnf
    obtain⟨b,off,w,wb,wc,rfl,hw,hrd,hwe⟩:=hg.rd hii
    subst hw
    conv=>whnf
    refine dec_intro (by omega) ?_
    conv=>whnf
    refine⟨_,hrd Hi emp hsi,?_⟩
    conv=>whnf
    intro b5
    conv=>whnf
    refine (d129 c.gates[i] c.wires c.bits _ _ _ (by omega) (by omega) (by have:=hc.2 _ (List.getElem_mem hii);omega) _ _ (hwe.up hsi)).val fun H1 s1=>?_
    conv=>whnf
    refine if_intro (fun hx=>?_) (fun hx=>?_)
    · conv=>whnf
      rw[e0,first_at hii hpi (by simpa using hx)]
    conv=>whnf
    refine⟨(i+1,H1),⟨by dsimp only;omega,hsi.trans s1,first_on hii hpi (by simpa using hx)⟩,by dsimp only;omega,?_⟩
    refine⟨rfl,rfl,?_⟩
    conv=>whnf
    repeat (refine⟨rfl,?_⟩;conv=>whnf)
    refine⟨by show En.v (.int .i64 (IntKind.i64.wrap (i+1)))=_;rw[wrap_id (by omega) (by omega)]<;>rfl,?_⟩
    conv=>whnf
    repeat (refine⟨rfl,?_⟩;conv=>whnf)
    exact trivial
  have hii:i=c.gates.length:=by
    have:=of_decide_eq_false hci
    omega
  subst hii
  dsimp only
  conv=>whnf
  rw[e0,first_end hpi]
end Go.Proofs.YtmhnalikebkhjaaGreatDoor

namespace Go.Proofs.YtmhnalikebkhjaaGreatDoor
open Go.Proofs.YtmhnalikebkhjaaGreatDoor.X Go.Proofs.YtmhnalikebkhjaaGreatDoor.X.PH
set_option maxRecDepth 100000
theorem Rd_part {H O : PH} {b off sz:Nat} {cs:List Value} (h:Rd H O ⟨b,off,none⟩ sz cs) (i n:Nat) (hi:i+n≤sz) {ds:List Value} (he:(cs.drop i).take n=ds):Rd H O ⟨b,off+i,none⟩ n ds:=by
  obtain⟨_,hl,c,t,fr,hb,hc⟩:=h
  refine⟨rfl,?_,c,t,fr,hb,?_⟩
  · rw[← he,List.length_take,List.length_drop]
    omega
  · rw[← he,← hc,List.drop_take,List.drop_drop,List.take_take]
    congr 1
    omega
theorem all_takeG {α : Type} {l:List α} {p:α→Bool} {i:Nat} (hi:i < l.length):(l.take (i+1)).all p=((l.take i).all p && p l[i]):=by
  rw[List.take_succ_eq_append_getElem hi,List.all_append]
  simp
theorem all_noG {α : Type} {l:List α} {p:α→Bool} {i:Nat} (hi:i < l.length) (h:p l[i]=false):l.all p=false:=by
  rw[List.all_eq_false]
  exact⟨l[i],List.getElem_mem hi,by rw[h];simp⟩
def plG (g : Gt):Bool:=decide (g.kind≤12) && (g.cond == 0)
def plainF (c : Ct):Bool:=c.gates.all plG
theorem d159 (g : Gt) (H:PH) (w:Value) (hw:IntsC H w g.ws):Cl Tryz.prog 159 [gv g w] H emp fun r _ _=>r=.bool (plG g):=by
  obtain⟨wb,wc,rfl,_⟩:=hw
  refine Cl_of (pol:=polL) Γok Tryz.func159 (by kernel_rfl) rfl ?_
  conv=>whnf
  intro b1
  conv=>whnf
  unfold plG
  refine if_intro (fun h=>?_) (fun h=>?_)
  · conv=>whnf
    rw[h]<;>rfl
  · conv=>whnf
    rw[h]<;>rfl
theorem d128 (c : Ct) (hc:c.fit) (H:PH) (v:Value) (hv:CircH H v c):Cl Tryz.prog 128 [v] H emp fun r _ _=>r=.tuple #[.bool (if circErr c ≠ 0 then false else plainF c),.int .i64 (circErr c)]:=by
  obtain⟨gb,gc,rfl,hg⟩:=hv.sl
  refine Cl_of (pol:=polL) Γok Tryz.func128 (by kernel_rfl) rfl ?_
  conv=>whnf
  intro b1
  conv=>whnf
  refine (d88 c hc _ _ ⟨_,rfl,hg⟩).val fun Ha sa=>?_
  conv=>whnf
  refine if_intro (fun he=>?_) (fun he=>?_)
  · conv=>whnf
    rw[if_pos (by simpa using he)]
  have he:circErr c=0:=by simpa using he
  conv=>whnf
  refine (d158 c.gates plG _ _ _ _ _ (hg.up sa) (fun x hx H' hs w hw=>⟨159,[],[],rfl,fun H2 hs2=>d159 x H2 w (hw.up hs2)⟩) (by have:=hc.1;omega)).val fun Hb sb=>?_
  conv=>whnf
  rw[if_neg (by simpa using he),he]
  rfl
theorem d120 (c : Ct) (hc:c.fit) (H:PH) (v:Value) (hv:CircH H v c):Cl Tryz.prog 120 [v] H emp fun r _ _=>r=.bool (plainF c):=by
  obtain⟨gb,gc,rfl,hg⟩:=hv.sl
  refine Cl_of (pol:=polL) Γok Tryz.func120 (by kernel_rfl) rfl ?_
  conv=>whnf
  intro b1
  conv=>whnf
  have hlen:=hc.1
  refine W_loop (pol:=polL) Γok (Nat × PH) (fun i=>i.1≤c.gates.length∧Sub H i.2∧(c.gates.take i.1).all plG=true) (fun i=>c.gates.length - i.1) (fun i=>[(3,.v (.int .i64 i.1))]) (fun _=>[]) (fun i=>i.2) (fun _=>emp) ⟨(0,H),⟨by simp,Sub.refl _,rfl⟩,rfl,rfl,?_⟩ ?_
  · conv=>whnf
    repeat (refine⟨rfl,?_⟩;conv=>whnf)
    exact trivial
  rintro ⟨i,Hi⟩ ⟨h1i,hsi,hpi⟩
  dsimp only at h1i hsi hpi
  conv=>whnf
  refine if_intro (fun hci=>?_) (fun hci=>?_)
  · have hii:i < c.gates.length:=by
      have:=of_decide_eq_true hci
      omega
    conv=>whnf
    obtain⟨b,off,w,wb,wc,rfl,hw,hrd,hwe⟩:=hg.rd hii
    subst hw
    conv=>whnf
    refine dec_intro (by omega) ?_
    conv=>whnf
    have hb:=hrd Hi emp hsi
    have hb0:Rd Hi emp ⟨b,off+i*4+0,none⟩ 1 [.int .i64 c.gates[i].kind]:=Rd_part hb 0 1 (by omega) rfl
    have hb3:Rd Hi emp ⟨b,off+i*4+3,none⟩ 1 [.int .i64 c.gates[i].cond]:=Rd_part hb 3 1 (by omega) rfl
    refine⟨_,hb0,?_⟩
    conv=>whnf
    have key:plG c.gates[i]=false→plainF c=false:=fun h=>all_noG hii h
    refine if_intro (fun h1=>?_) (fun h1=>?_)
    · conv=>whnf
      rw[key (by unfold plG;rw[decide_eq_false (by have:=of_decide_eq_true h1;omega)]<;>rfl)]
    conv=>whnf
    refine dec_intro (by omega) ?_
    conv=>whnf
    refine⟨_,hb3,?_⟩
    conv=>whnf
    refine if_intro (fun h2=>?_) (fun h2=>?_)
    · conv=>whnf
      rw[key (by unfold plG;rw[show (c.gates[i].cond == 0)=false by simpa using h2];simp)]
    have hp:plG c.gates[i]=true:=by
      unfold plG
      rw[decide_eq_true (by have:=of_decide_eq_false h1;omega),show (c.gates[i].cond == 0)=true by simpa using h2]
      rfl
    conv=>whnf
    refine⟨(i+1,Hi),⟨by dsimp only;omega,hsi,by rw[all_takeG hii,hpi,hp]<;>rfl⟩,by dsimp only;omega,?_⟩
    refine⟨rfl,rfl,?_⟩
    conv=>whnf
    repeat (refine⟨rfl,?_⟩;conv=>whnf)
    refine⟨by show En.v (.int .i64 (IntKind.i64.wrap (i+1)))=_;rw[wrap_id (by omega) (by omega)]<;>rfl,?_⟩
    conv=>whnf
    repeat (refine⟨rfl,?_⟩;conv=>whnf)
    exact trivial
  have hii:i=c.gates.length:=by
    have:=of_decide_eq_false hci
    omega
  subst hii
  dsimp only
  conv=>whnf
  rw[List.take_length] at hpi
  rw[show plainF c=true from hpi]
end Go.Proofs.YtmhnalikebkhjaaGreatDoor

namespace Go.Proofs.YtmhnalikebkhjaaGreatDoor
open Go.Proofs.YtmhnalikebkhjaaGreatDoor.X Go.Proofs.YtmhnalikebkhjaaGreatDoor.X.PH
set_option maxRecDepth 100000
def plainErr (c : Ct):Int:=if circErr c ≠ 0 then circErr c else if plainF c=false then 7 else if c.wires > 6 then 3 else 0
theorem d86 (c : Ct) (hc:c.fit) (H:PH) (v:Value) (hv:CircH H v c):Cl Tryz.prog 86 [v] H emp fun r _ _=>r=.int .i64 (plainErr c):=by
  obtain⟨gb,gc,rfl,hg⟩:=hv.sl
  refine Cl_of (pol:=polL) Γok Tryz.func86 (by kernel_rfl) rfl ?_
  conv=>whnf
  intro b1
  conv=>whnf
  refine (d128 c hc _ _ ⟨_,rfl,hg⟩).val fun Ha sa=>?_
  conv=>whnf
  refine if_intro (fun he=>?_) (fun he=>?_)
  · conv=>whnf
    rw[show plainErr c=circErr c from if_pos (by simpa using he)]
  have he:¬ circErr c ≠ 0:=by simpa using he
  rw[if_neg he]
  conv=>whnf
  refine if_intro (fun hp=>?_) (fun hp=>?_)
  · conv=>whnf
    rw[show plainErr c=7 by unfold plainErr;rw[if_neg he,if_pos (by simpa using hp)]]
  have hp:¬ plainF c=false:=by simpa using hp
  conv=>whnf
  refine if_intro (fun hw=>?_) (fun hw=>?_)
  · conv=>whnf
    rw[show plainErr c=3 by unfold plainErr;rw[if_neg he,if_neg hp,if_pos (of_decide_eq_true hw)]]
  conv=>whnf
  rw[show plainErr c=0 by unfold plainErr;rw[if_neg he,if_neg hp,if_neg (of_decide_eq_false hw)]]
theorem d82 (c : Ct) (hc:c.fit) (H:PH) (v:Value) (hv:CircH H v c):Cl Tryz.prog 82 [v] H emp fun r _ _=>r=.int .i64 (plainErr c):=by
  obtain⟨gb,gc,rfl,hg⟩:=hv.sl
  refine Cl_of (pol:=polL) Γok Tryz.func82 (by kernel_rfl) rfl ?_
  conv=>whnf
  intro b1
  conv=>whnf
  refine (d84 c hc _ _ ⟨_,rfl,hg⟩).val fun Ha sa=>?_
  conv=>whnf
  refine if_intro (fun he=>?_) (fun he=>?_)
  · conv=>whnf
    rw[show plainErr c=circErr c from if_pos (by simpa using he)]
  have he:¬ circErr c ≠ 0:=by simpa using he
  conv=>whnf
  refine (d120 c hc _ _ ⟨_,rfl,hg.up sa⟩).val fun Hb sb=>?_
  conv=>whnf
  refine if_intro (fun hp=>?_) (fun hp=>?_)
  · conv=>whnf
    rw[show plainErr c=7 by unfold plainErr;rw[if_neg he,if_pos (by simpa using hp)]]
  have hp:¬ plainF c=false:=by simpa using hp
  conv=>whnf
  refine if_intro (fun hw=>?_) (fun hw=>?_)
  · conv=>whnf
    rw[show plainErr c=3 by unfold plainErr;rw[if_neg he,if_neg hp,if_pos (of_decide_eq_true hw)]]
  conv=>whnf
  rw[show plainErr c=0 by unfold plainErr;rw[if_neg he,if_neg hp,if_neg (of_decide_eq_false hw)]]
def bigG (g : Gt):Bool:=decide (g.ws.length > 6)
def greatC (c : Ct):Bool:=decide (c.gates.length > 130) || c.gates.any bigG
theorem d81 (g : Gt) (H:PH) (w:Value) (hw:IntsC H w g.ws):Cl Tryz.prog 81 [gv g w] H emp fun r _ _=>r=.bool (bigG g):=by
  obtain⟨wb,wc,rfl,_⟩:=hw
  refine Cl_of (pol:=polL) Γok Tryz.func81 (by kernel_rfl) rfl ?_
  conv=>whnf
  intro b1
  conv=>whnf
  congr 1
  unfold bigG
  apply decide_eq_decide.2
  omega
theorem d31 (c : Ct) (hc:c.gates.length < 9223372036854775808) (H:PH) (v:Value) (hv:CircH H v c):Cl Tryz.prog 31 [v] H emp fun r _ _=>r=.bool (greatC c):=by
  obtain⟨gb,gc,rfl,hg⟩:=hv.sl
  refine Cl_of (pol:=polL) Γok Tryz.func31 (by kernel_rfl) rfl ?_
  conv=>whnf
  intro b1
  conv=>whnf
  have e:decide ((c.gates.length:Int) > 130)=decide (c.gates.length > 130):=decide_eq_decide.2 (by omega)
  unfold greatC
  refine if_intro (fun h=>?_) (fun h=>?_)
  · conv=>whnf
    rw[← e,h]
    rfl
  conv=>whnf
  refine (d80 c.gates bigG _ _ _ hg (fun x hx w hw=>⟨81,[],[],rfl,fun H2 hs2=>d81 x H2 w (hw.up hs2)⟩) hc).val fun Hb sb=>?_
  conv=>whnf
  rw[← e,h]
  rfl
theorem d30 (g h : Gt) (hl:g.ws.length < 9223372036854775808) (H:PH) (u w:Value) (hu:IntsC H u g.ws) (hw:IntsC H w h.ws):Cl Tryz.prog 30 [gv g u,gv h w] H emp fun r _ _=>r=.bool (decide (g=h)):=by
  obtain⟨ub,uc,rfl,_,hu⟩:=hu
  obtain⟨wb,wc,rfl,_,hw⟩:=hw
  refine Cl_of (pol:=polL) Γok Tryz.func30 (by kernel_rfl) rfl ?_
  conv=>whnf
  intro b1
  conv=>whnf
  intro b2
  conv=>whnf
  have ne:∀ {p:Gt→Int},(p g == p h)=false→decide (g=h)=false:=fun {p} hn=>decide_eq_false fun e=>by rw[e] at hn;simp at hn
  refine if_intro (fun h1=>?_) (fun h1=>?_)
  · conv=>whnf
    refine if_intro (fun h2=>?_) (fun h2=>?_)
    · conv=>whnf
      refine if_intro (fun h3=>?_) (fun h3=>?_)
      · conv=>whnf
        refine (c25 g.ws h.ws hl _ _ _ hu hw).val fun Ha sa=>?_
        conv=>whnf
        congr 1
        apply decide_eq_decide.2
        obtain⟨k1,w1,b1,i1⟩:=g
        obtain⟨k2,w2,b2,i2⟩:=h
        simp at h1 h2 h3
        simp[h1,h2,h3]
      · conv=>whnf
        rw[ne (p:=Gt.cond) h3]
    · conv=>whnf
      rw[ne (p:=Gt.bit) h2]
  · conv=>whnf
    rw[ne (p:=Gt.kind) h1]
theorem d70 (l m : List Gt) (hl:l.length≤100000) (hw:∀ g∈l,g.ws.length≤100000) (H:PH) (u v:Value) (hu:GatesH H u l) (hv:GatesH H v m):Cl Tryz.prog 70 [u,v,.func (.func 30) #[] #[]] H emp fun r _ _=>r=.bool (decide (l=m)):=by
  obtain⟨ub,uc,rfl⟩:=hu.sl
  obtain⟨vb,vc,rfl⟩:=hv.sl
  refine Cl_of (pol:=polL) Γok Tryz.func70 (by kernel_rfl) rfl ?_
  conv=>whnf
  refine if_intro (fun h1=>?_) (fun h1=>?_)
  · conv=>whnf
    rw[decide_eq_false fun e=>by rw[e] at h1;simp at h1]
  have hlen:l.length=m.length:=by
    have:(l.length:Int)=m.length:=by simpa using h1
    omega
  conv=>whnf
  refine W_loop (pol:=polL) Γok (Nat × PH) (fun i=>i.1≤l.length∧Sub H i.2∧∀ q,q < i.1→l[q]?=m[q]?) (fun i=>l.length - i.1) (fun i=>[(17,.v (.int .i64 i.1))]) (fun _=>[]) (fun i=>i.2) (fun _=>emp) ⟨(0,H),⟨by simp,Sub.refl _,fun q hq=>by omega⟩,rfl,rfl,?_⟩ ?_
  · conv=>whnf
    repeat (refine⟨rfl,?_⟩;conv=>whnf)
    exact trivial
  rintro ⟨i,Hi⟩ ⟨h1i,hsi,hpi⟩
  dsimp only at h1i hsi hpi
  conv=>whnf
  refine if_intro (fun hci=>?_) (fun hci=>?_)
  · have hii:i < l.length:=by
      have:=of_decide_eq_true hci
      omega
    conv=>whnf
    have hj:i < m.length:=by omega
    obtain⟨b,off,w,wb,wc,rfl,hw1,hrd,hwe⟩:=hu.rd hii
    obtain⟨b',off',w',wb',wc',rfl,hw2,hrd',hwe'⟩:=hv.rd hj
    subst hw1
    subst hw2
    conv=>whnf
    refine dec_intro (by omega) ?_
    conv=>whnf
    refine⟨_,hrd Hi emp hsi,?_⟩
    conv=>whnf
    intro b3
    conv=>whnf
    refine dec_intro (by omega) ?_
    conv=>whnf
    refine⟨_,hrd' Hi emp hsi,?_⟩
    conv=>whnf
    intro b4
    conv=>whnf
    refine (d30 l[i] m[i] (by have:=hw _ (List.getElem_mem hii);omega) _ _ _ (hwe.up hsi) (hwe'.up hsi)).val fun H1 s1=>?_
    conv=>whnf
    refine if_intro (fun hx=>?_) (fun hx=>?_)
    · conv=>whnf
      rw[decide_eq_false fun e=>by subst e;simp at hx]
    have hx:l[i]=m[i]:=by simpa using hx
    conv=>whnf
    refine⟨(i+1,H1),⟨by dsimp only;omega,hsi.trans s1,fun q hq=>by
        rcases Nat.lt_succ_iff_lt_or_eq.1 hq with h | rfl
        · exact hpi q h
        · rw[List.getElem?_eq_getElem hii,List.getElem?_eq_getElem hj,hx]⟩,by dsimp only;omega,?_⟩
    refine⟨rfl,rfl,?_⟩
    conv=>whnf
    repeat (refine⟨rfl,?_⟩;conv=>whnf)
    refine⟨by show En.v (.int .i64 (IntKind.i64.wrap (i+1)))=_;rw[wrap_id (by omega) (by omega)]<;>rfl,?_⟩
    conv=>whnf
    repeat (refine⟨rfl,?_⟩;conv=>whnf)
    exact trivial
  have hii:i=l.length:=by
    have:=of_decide_eq_false hci
    omega
  subst hii
  dsimp only
  conv=>whnf
  rw[decide_eq_true (List.ext_getElem? fun q=>by
    by_cases hq:q < l.length
    · exact hpi q hq
    · rw[List.getElem?_eq_none (by omega),List.getElem?_eq_none (by omega)])]
theorem d22 (c d : Ct) (hc:c.fit) (H:PH) (u v:Value) (hu:CircH H u c) (hv:CircH H v d):Cl Tryz.prog 22 [u,v] H emp fun r _ _=>r=.bool ((c.wires == d.wires) && (c.bits == d.bits) && decide (c.gates=d.gates)):=by
  obtain⟨gb,gc,rfl,hg⟩:=hu.sl
  obtain⟨gb',gc',rfl,hg'⟩:=hv.sl
  refine Cl_of (pol:=polL) Γok Tryz.func22 (by kernel_rfl) rfl ?_
  conv=>whnf
  intro b1
  conv=>whnf
  intro b2
  conv=>whnf
  refine if_intro (fun h1=>?_) (fun h1=>?_)
  · conv=>whnf
    refine if_intro (fun h2=>?_) (fun h2=>?_)
    · conv=>whnf
      refine (d70 c.gates d.gates hc.1 hc.2 _ _ _ hg hg').val fun Ha sa=>?_
      conv=>whnf
      rw[h1,h2]
      rfl
    · conv=>whnf
      rw[h1,h2]
      rfl
  · conv=>whnf
    rw[h1]
    rfl
end Go.Proofs.YtmhnalikebkhjaaGreatDoor

namespace Go.Proofs.YtmhnalikebkhjaaGreatDoor
open Go.Proofs.YtmhnalikebkhjaaGreatDoor.X Go.Proofs.YtmhnalikebkhjaaGreatDoor.X.PH
set_option maxRecDepth 100000
theorem IntsO.pubC {H M : PH} {v:Value} {l:List Int} (hd:Dis H M) (h:IntsO M v l):∃ H' M',Repart H M H' M'∧IntsC H' v l:=by
  obtain⟨h1,h2⟩:=h
  rcases h2 with⟨e,h⟩ | ⟨b',cap,sp,e,ho,q⟩
  · have:l=[]:=by simpa using h
    subst this
    exact⟨H,M,.refl hd,none,0,e,by simp,none,0,e,.inl ⟨rfl,rfl⟩⟩
  · rw[flat_oneI] at ho
    have q1:=q.1
    simp at q1 e
    refine⟨_,_,.one hd ho,_,cap,e,q1,_,cap,e,.inr ⟨b',0,_,_,_,rfl,ins_same _ _ _,?_⟩⟩
    simp
theorem c16C (l : List Int) (hlen:l.length≤100000) (H:PH) (v:Value) (hv:IntsH H v l):Cl Tryz.prog 12 [v] H emp fun r H' _=>IntsC H' r l:=
  (c16 l hlen H v hv).repart fun _ _ _ _ hd h=>by
    obtain⟨H',M',h1,h2⟩:=IntsO.pubC hd h
    exact⟨H',M',h1,h2⟩
theorem OwnS.recs {H M : PH} {sz:Nat} {t:TypeId} {v:Value} {cs:List (List Value)} (hd:Dis H M) (h:OwnS M sz t v cs):∃ H' M',Repart H M H' M'∧RecsH H' sz v cs:=by
  obtain⟨h1,h2⟩:=h
  rcases h2 with⟨e,h⟩ | ⟨b',cap,sp,e,ho,q⟩
  · subst h
    exact⟨H,M,.refl hd,h1,none,0,e,.inl ⟨rfl,rfl⟩⟩
  · refine⟨_,_,.one hd ho,h1,_,cap,e,.inr ⟨b',0,_,_,_,rfl,ins_same _ _ _,?_⟩⟩
    simp
def GatesC (H : PH) (gs:List Gt) (cs:List (List Value)):Prop:=cs.length=gs.length∧∀ (i:Nat) g c,gs[i]?=some g→cs[i]?=some c→GateC H g c
theorem GatesC.up {H H' : PH} {gs:List Gt} {cs:List (List Value)} (h:GatesC H gs cs) (hs:Sub H H'):GatesC H' gs cs:=⟨h.1,fun i g c a b=>(h.2 i g c a b).up hs⟩
theorem GatesC.snoc {H : PH} {gs:List Gt} {cs:List (List Value)} {g:Gt} {c:List Value} (h:GatesC H gs cs) (hc:GateC H g c):GatesC H (gs++[g]) (cs++[c]):=by
  refine⟨by simp[h.1],fun i g' c' hg hc'=>?_⟩
  rcases Nat.lt_trichotomy i gs.length with hi | hi | hi
  · rw[List.getElem?_append_left hi] at hg
    rw[List.getElem?_append_left (by rw[h.1];exact hi)] at hc'
    exact h.2 i g' c' hg hc'
  · subst hi
    rw[List.getElem?_append_right (Nat.le_refl _),Nat.sub_self] at hg
    rw[List.getElem?_append_right (by rw[h.1];exact Nat.le_refl _),h.1,Nat.sub_self] at hc'
    cases hg
    cases hc'
    exact hc
  · rw[List.getElem?_eq_none (by simp;omega)] at hg
    cases hg
theorem GatesC.gates {H : PH} {gs:List Gt} {cs:List (List Value)} {v:Value} (h:GatesC H gs cs) (hr:RecsH H 4 v cs):GatesH H v gs:=⟨cs,h.1,hr,h.2⟩
def polOwn : Tmp→Pol:=fun | 30=>.imm | _=>.loc
set_option maxHeartbeats 1000000 in
theorem d10o (c : Ct) (hc:c.fit) (H:PH) (v:Value) (hv:CircH H v c):Cl Tryz.prog 10 [v] H emp fun r H' M'=>∃ w cs,r=cv c w∧OwnS M' 4 57 w cs∧GatesC H' c.gates cs:=by
  obtain⟨gb,gc,rfl,hg⟩:=hv.sl
  refine Cl_of (pol:=polOwn) Γok Tryz.func10 (by kernel_rfl) rfl ?_
  conv=>whnf
  intro b1
  conv=>whnf
  intro b2
  conv=>whnf
  intro b3
  conv=>whnf
  have hl:=hc.1
  refine W_loop (pol:=polOwn) Γok (Nat × PH × Value × PH × List (List Value)) (fun i=>i.1≤c.gates.length∧Sub H i.2.1∧OwnS i.2.2.2.1 4 57 i.2.2.1 i.2.2.2.2∧GatesC i.2.1 (c.gates.take i.1) i.2.2.2.2) (fun i=>c.gates.length - i.1) (fun i=>[(14,.v (.int .i64 i.1))]) (fun i=>[(2,[.int .i64 c.wires,.int .i64 c.bits,i.2.2.1])]) (fun i=>i.2.1) (fun i=>i.2.2.2.1) ⟨(0,H,.slice none 0 0,emp,[]),⟨by simp,Sub.refl _,⟨by simp,.inl ⟨rfl,rfl⟩⟩,⟨rfl,fun i g c h=>by simp at h⟩⟩,rfl,rfl,?_⟩ ?_
  · conv=>whnf
    repeat (refine⟨rfl,?_⟩;conv=>whnf)
    exact trivial
  rintro ⟨i,Hi,ov,Oi,cs⟩ ⟨h1i,hsi,ho,hgc⟩
  dsimp only at h1i hsi ho hgc
  obtain⟨ob,on,oc,rfl⟩:=OwnS.sl ho
  conv=>whnf
  refine if_intro (fun hci=>?_) (fun hci=>?_)
  · have hii:i < c.gates.length:=by
      have:=of_decide_eq_true hci
      omega
    obtain⟨b,off,w,wb,wc,rfl,hw,hrd,hwe⟩:=hg.rd hii
    subst hw
    conv=>whnf
    refine dec_intro (by omega) ?_
    conv=>whnf
    refine⟨_,hrd Hi Oi hsi,?_⟩
    conv=>whnf
    intro b5
    conv=>whnf
    refine W_draw (pol:=polOwn) Γok mixes [(0,.pend),(1,.pend),(2,.pend),(3,.pend),(4,.pendO),(5,.pendO),(7,.pend),(8,.pend),(9,.pend),(10,.pend),(6,.lock),(11,.pendO),(12,.lock),(13,.lock),(14,.pendO),(15,.lock)] 35 (by kernel_rfl) rfl ?_
    conv=>whnf
    refine (c16C c.gates[i].ws (by have:=hc.2 _ (List.getElem_mem hii);omega) _ _ (IntsH.up hwe.h hsi)).use fun w2 H1 s1 hw2=>?_
    obtain⟨_,hw2⟩:=hw2
    obtain⟨w2b,w2c,rfl,hw2l,hw2h⟩:=id hw2
    conv=>whnf
    intro b6 hb6 hO6
    conv=>whnf
    have s2:=sub_ins H1 (.cells ⟨[.int .i64 c.gates[i].kind,.slice w2b c.gates[i].ws.length w2c,.int .i64 c.gates[i].bit,.int .i64 c.gates[i].cond]⟩ 57 (0,0)) hb6
    refine append_one (xs:=cs) (y:=[.int .i64 c.gates[i].kind,.slice w2b c.gates[i].ws.length w2c,.int .i64 c.gates[i].bit,.int .i64 c.gates[i].cond]) ho rfl rfl (by intro v hv;simp at hv;rcases hv with rfl | rfl | rfl | rfl<;>rfl) ⟨_,_,_,rfl,rfl,Rd.whole (ins_same _ _ _)⟩ ?_ fun v2 O4 hO4 _=>?_
    · rw[hgc.1,List.length_take]
      omega
    obtain⟨vb2,vn2,vc2,rfl⟩:=OwnS.sl hO4
    conv=>whnf
    refine⟨(i+1,ins H1 b6 (.cells ⟨[.int .i64 c.gates[i].kind,.slice w2b c.gates[i].ws.length w2c,.int .i64 c.gates[i].bit,.int .i64 c.gates[i].cond]⟩ 57 (0,0)),.slice vb2 vn2 vc2,O4,cs++[[.int .i64 c.gates[i].kind,.slice w2b c.gates[i].ws.length w2c,.int .i64 c.gates[i].bit,.int .i64 c.gates[i].cond]]),⟨by dsimp only;omega,hsi.trans (s1.trans s2),hO4,?_⟩,by dsimp only;omega,?_⟩
    · dsimp only
      rw[List.take_succ_eq_append_getElem hii]
      exact (hgc.up (s1.trans s2)).snoc ⟨_,rfl,hw2.up s2⟩
    refine⟨rfl,rfl,?_⟩
    conv=>whnf
    repeat (refine⟨rfl,?_⟩;conv=>whnf)
    refine⟨by show En.v (.int .i64 (IntKind.i64.wrap (i+1)))=_;rw[wrap_id (by omega) (by omega)]<;>rfl,?_⟩
    conv=>whnf
    repeat (refine⟨rfl,?_⟩;conv=>whnf)
    exact trivial
  have hi:i=c.gates.length:=by
    have:=of_decide_eq_false hci
    omega
  subst hi
  conv=>whnf
  rw[List.take_length] at hgc
  exact⟨_,cs,rfl,ho,hgc⟩
theorem d10 (c : Ct) (hc:c.fit) (H:PH) (v:Value) (hv:CircH H v c):Cl Tryz.prog 10 [v] H emp fun r H' _=>CircH H' r c:=
  (d10o c hc H v hv).repart fun _ _ _ _ hd h=>by
    obtain⟨w,cs,rfl,ho,hgc⟩:=h
    obtain⟨H',M',rp,hr⟩:=OwnS.recs hd ho
    exact⟨H',M',rp,w,rfl,(hgc.up rp.sub).gates hr⟩
end Go.Proofs.YtmhnalikebkhjaaGreatDoor

namespace Go.Proofs.YtmhnalikebkhjaaGreatDoor
open Go.Proofs.YtmhnalikebkhjaaGreatDoor.X Go.Proofs.YtmhnalikebkhjaaGreatDoor.X.PH
set_option maxRecDepth 100000
theorem odd_uniq {u v : P4} {a b N:Nat} (ha:a≤N) (hb:b≤N) (h:rz (N - a) u=rz (N - b) v) (hu:a=0∨evenR u=false) (hv:b=0∨evenR v=false):u=v∧a=b:=by
  have key:∀ {u v:P4} {a b:Nat},a≤N→b≤N→rz (N - a) u=rz (N - b) v→(b=0∨evenR v=false)→a≤b→u=v∧a=b:=by
    intro u v a b ha hb h hv hab
    have e:rz (b - a) u=v:=by
      apply rz_inj (N - b)
      rw[← rz_add,← h]
      congr 1
      omega
    rcases Nat.lt_or_eq_of_le hab with hlt | heq
    · exfalso
      rcases hv with hv | hv
      · omega
      · rw[show b - a=(b - a - 1)+1 by omega] at e
        have:evenR v=true:=by rw[← e];exact evenR_tw _
        rw[hv] at this
        cases this
    · subst heq
      rw[Nat.sub_self] at e
      exact⟨e,rfl⟩
  rcases Nat.le_total a b with hab | hab
  · exact key ha hb h hv hab
  · obtain⟨h1,h2⟩:=key hb ha h.symm hu hab
    exact⟨h1.symm,h2.symm⟩
theorem form_uniq {p q : P4} {k j:Int} {N:Nat} (hp:p.fine) (hq:q.fine) (hk:0≤k) (hj:0≤j) (hkN:k≤N) (hjN:j≤N) (h:lv N (p,k)=lv N (q,j)):formR p k=formR q j:=by
  have hz:p.isZero=q.isZero:=by
    have:=congrArg P4.isZero h
    unfold lv at this
    rwa [rz_isZero,rz_isZero] at this
  cases e:p.isZero with
  | true=>
    have e2:q.isZero=true:=by rw[← hz,e]
    unfold formR
    rw[e,e2]
    rfl
  | false=>
    have e2:q.isZero=false:=by rw[← hz,e]
    rw[formR_eq hk e,formR_eq hj e2]
    obtain⟨p1,p2⟩:=lowerR_backF k.toNat p hp
    obtain⟨q1,q2⟩:=lowerR_backF j.toNat q hq
    have po:=(lowerR_endF k.toNat p hp e).1
    have qo:=(lowerR_endF j.toNat q hq e2).1
    have hh:rz (N - (lowerR k.toNat p).2) (lowerR k.toNat p).1=rz (N - (lowerR j.toNat q).2) (lowerR j.toNat q).1:=by
      unfold lv at h
      dsimp only at h
      rw[show N - (lowerR k.toNat p).2=(N - k.toNat)+(k.toNat - (lowerR k.toNat p).2) by omega,rz_add,← p1,h,show N - (lowerR j.toNat q).2=(N - j.toNat)+(j.toNat - (lowerR j.toNat q).2) by omega,rz_add,← q1]
    obtain⟨h1,h2⟩:=odd_uniq (by omega) (by omega) hh po qo
    rw[h1,h2]
def NormR (x : P4 × Int):(P4 × Int) × Int:=if checkR x.1 x.2 ≠ 0 then ((P4.zero,0),checkR x.1 x.2) else fitsR (productR x.1 (conjP x.1)) (wr (x.2+x.2))
def NormF (x : P4 × Int):(P4 × Int) × Int:=if (ConjF x).2 ≠ 0 then ((P4.zero,0),(ConjF x).2) else MulF x (ConjF x).1
theorem Norm_eq (x : P4 × Int):NormF x=NormR x:=by
  unfold NormF NormR
  rw[Conj_eq]
  by_cases h:checkR x.1 x.2 ≠ 0
  · rw[show ConjR x=((P4.zero,0),checkR x.1 x.2) from if_pos h,if_pos h,if_pos h]
  · rw[if_neg h]
    have hx:checkF x.1 x.2=0:=by rw[checkF_checkR];simpa using h
    obtain⟨c1,c2⟩:=Conj_form hx
    rw[c1,if_neg (by simp),Mul_eq]
    obtain⟨x0,x1,x2⟩:=right_in hx
    obtain⟨y0,y1,y2⟩:=right_in (x:=(cz x.1,x.2)) c2
    dsimp only at y0 y1 y2
    have fr:=(formR_right c2).1
    obtain⟨m1,m2⟩:=Mul_fits hx fr
    rw[m1,conjP_cz x2,product_pz x2 y2,wr_id (by omega) (by omega)]
    obtain⟨l1,l2,l3⟩:=lv_form (N:=x.2.toNat) (fine_of (within_mono y2 (by decide))) y0 (by omega)
    have e:formR (pz x.1 (formR (cz x.1) x.2).1) (x.2+(formR (cz x.1) x.2).2)=formR (pz x.1 (cz x.1)) (x.2+x.2):=by
      refine form_uniq (N:=2*x.2.toNat) m2 (pz_fine x2 y2) (by omega) (by omega) (by omega) (by omega) ?_
      unfold lv at l1 ⊢
      dsimp only at l1 ⊢
      rw[show x.2.toNat - x.2.toNat=0 by omega] at l1
      have e1:=pz_rz x.1 (formR (cz x.1) x.2).1 0 (x.2.toNat - (formR (cz x.1) x.2).2.toNat)
      rw[l1] at e1
      rw[show 2*x.2.toNat - (x.2+x.2).toNat=0 by omega,show 2*x.2.toNat - (x.2+(formR (cz x.1) x.2).2).toNat=0+(x.2.toNat - (formR (cz x.1) x.2).2.toNat) by omega]
      exact e1.symm
    unfold fitsR
    rw[e]
theorem d92 (x : P4 × Int) (H:PH):Cl Tryz.prog 92 [nv x] H emp fun r _ _=>r=ne (NormR x):=by
  refine Cl_of (pol:=polL) Γok Tryz.func92 (by kernel_rfl) rfl ?_
  conv=>whnf
  intro b1
  conv=>whnf
  intro b2
  conv=>whnf
  refine (c108 x.1 x.2 _).val fun H1 s1=>?_
  conv=>whnf
  refine if_intro (fun h=>?_) (fun h=>?_)
  · conv=>whnf
    rw[show NormR x=((P4.zero,0),checkR x.1 x.2) from if_pos (by simpa using h)]
    rfl
  conv=>whnf
  refine W_draw (pol:=polL) Γok mixes [(0,.pend),(1,.pendO),(2,.lock),(3,.lock),(4,.lock),(5,.pendO),(6,.pendO),(7,.lock),(8,.pendO)] 18 (by kernel_rfl) rfl ?_
  conv=>whnf
  refine (c169 x.1 x.2 _).val fun H2 s2=>?_
  conv=>whnf
  refine (c160 x (conjP x.1,x.2) _).val fun H3 s3=>?_
  conv=>whnf
  refine (c159 _ _ ?_ ?_ _).val fun H4 s4=>?_
  · show _≤wr _;unfold wr;rw[IntKind.wrap_i64];omega
  · show wr _ < _;unfold wr;rw[IntKind.wrap_i64];omega
  conv=>whnf
  rw[show NormR x=fitsR (productR x.1 (conjP x.1)) (wr (x.2+x.2)) from if_neg (by simpa using h)]
  rfl
theorem d110 (x : P4 × Int) (H:PH):Cl Tryz.prog 110 [nv x] H emp fun r _ _=>r=ne (NormR x):=by
  refine Cl_of (pol:=polL) Γok Tryz.func110 (by kernel_rfl) rfl ?_
  conv=>whnf
  rw[← Norm_eq]
  intro b1
  conv=>whnf
  intro b2
  conv=>whnf
  refine (c122 x _).val fun H1 s1=>?_
  conv=>whnf
  intro b3
  conv=>whnf
  refine if_intro (fun h=>?_) (fun h=>?_)
  · conv=>whnf
    rw[show NormF x=((P4.zero,0),(ConjF x).2) from if_pos (by simpa using h)]
    rfl
  conv=>whnf
  refine (c104 x (ConjF x).1 _).val fun H2 s2=>?_
  conv=>whnf
  rw[show NormF x=MulF x (ConjF x).1 from if_neg (by simpa using h)]
  rfl
end Go.Proofs.YtmhnalikebkhjaaGreatDoor

namespace Go.Proofs.YtmhnalikebkhjaaGreatDoor
open Go.Proofs.YtmhnalikebkhjaaGreatDoor.X Go.Proofs.YtmhnalikebkhjaaGreatDoor.X.PH
set_option maxRecDepth 100000
abbrev Vec : Type:=List (P4 × Int)
def sizeI (n : Nat):Int:=if n=1 then 0 else if n=2 then 1 else if n=4 then 2 else if n=8 then 3 else if n=16 then 4 else if n=32 then 5 else if n=64 then 6 else -1
theorem size_at : ∀ i:Nat,i < 7→sizeI (2 ^ i)=(i:Int):=by decide +kernel
theorem size_none {n : Nat} (h:∀ q,q < 7→n ≠ 2 ^ q):sizeI n=-1:=by
  have h0:=h 0 (by decide)
  have h1:=h 1 (by decide)
  have h2:=h 2 (by decide)
  have h3:=h 3 (by decide)
  have h4:=h 4 (by decide)
  have h5:=h 5 (by decide)
  have h6:=h 6 (by decide)
  unfold sizeI
  simp at h0 h1 h2 h3 h4 h5 h6
  simp[h0,h1,h2,h3,h4,h5,h6]
theorem size_some {n : Nat} (h:¬ sizeI n < 0):∃ q:Nat,q < 7∧n=2 ^ q∧sizeI n=q:=by
  by_cases hq:∃ q,q < 7∧n=2 ^ q
  · obtain⟨q,h1,h2⟩:=hq
    exact⟨q,h1,h2,by rw[h2];exact size_at q h1⟩
  · rw[size_none fun q h1 h2=>hq ⟨q,h1,h2⟩] at h
    omega
def stErr (v : Vec):Int:=if sizeI v.length < 0 then 2 else errsR v
def wiresI (v : Vec):Int × Int:=if stErr v ≠ 0 then (0,stErr v) else (sizeI v.length,0)
theorem shl_nat {a : Nat} (h:a≤60):IntKind.i64.wrap (1*2 ^ (min (a:Int).toNat IntKind.i64.bits))=((2 ^ a:Nat):Int):=shl1 h
theorem d72 (n : Nat) (H:PH):Cl Tryz.prog 72 [.int .i64 n] H emp fun r _ _=>r=.int .i64 (sizeI n):=by
  refine Cl_of (pol:=polL) Γok Tryz.func72 (by kernel_rfl) rfl ?_
  conv=>whnf
  refine W_loop (pol:=polL) Γok (Nat × PH) (fun i=>i.1≤7∧Sub H i.2∧∀ q,q < i.1→n ≠ 2 ^ q) (fun i=>7 - i.1) (fun i=>[(3,.v (.int .i64 i.1))]) (fun _=>[]) (fun i=>i.2) (fun _=>emp) ⟨(0,H),⟨by simp,Sub.refl _,fun q hq=>by omega⟩,rfl,rfl,?_⟩ ?_
  · conv=>whnf
    repeat (refine⟨rfl,?_⟩;conv=>whnf)
    exact trivial
  rintro ⟨i,Hi⟩ ⟨h1i,hsi,hpi⟩
  dsimp only at h1i hsi hpi
  conv=>whnf
  refine if_intro (fun hci=>?_) (fun hci=>?_)
  · have hii:i < 7:=by
      have:=of_decide_eq_true hci
      omega
    conv=>whnf
    rw[shl_nat (by omega)]
    conv=>whnf
    refine if_intro (fun hx=>?_) (fun hx=>?_)
    · conv=>whnf
      have hx:n=2 ^ i:=by
        have:(n:Int)=((2 ^ i:Nat):Int):=by simpa using hx
        exact_mod_cast this
      rw[hx,size_at i hii]
    have hx:n ≠ 2 ^ i:=fun e=>by
      rw[e] at hx
      simp at hx
    conv=>whnf
    refine⟨(i+1,Hi),⟨by dsimp only;omega,hsi,fun q hq=>by
        rcases Nat.lt_succ_iff_lt_or_eq.1 hq with h | rfl
        · exact hpi q h
        · exact hx⟩,by dsimp only;omega,?_⟩
    refine⟨rfl,rfl,?_⟩
    conv=>whnf
    repeat (refine⟨rfl,?_⟩;conv=>whnf)
    refine⟨by show En.v (.int .i64 (IntKind.i64.wrap (i+1)))=_;rw[wrap_id (by omega) (by omega)]<;>rfl,?_⟩
    conv=>whnf
    repeat (refine⟨rfl,?_⟩;conv=>whnf)
    exact trivial
  have hii:i=7:=by
    have:=of_decide_eq_false hci
    omega
  subst hii
  dsimp only
  conv=>whnf
  rw[size_none hpi]
theorem d49 (v : Vec) (hlen:v.length < 9223372036854775808) (H:PH) (x:Value) (hx:NumH H x v):Cl Tryz.prog 49 [x] H emp fun r _ _=>r=.int .i64 (stErr v):=by
  obtain⟨base,cap,rfl,_⟩:=id hx
  refine Cl_of (pol:=polL) Γok Tryz.func49 (by kernel_rfl) rfl ?_
  conv=>whnf
  refine (d72 v.length _).val fun H1 s1=>?_
  conv=>whnf
  refine if_intro (fun h=>?_) (fun h=>?_)
  · conv=>whnf
    rw[show stErr v=2 from if_pos (of_decide_eq_true h)]
  conv=>whnf
  refine (c94 v _ _ (NumH.up hx s1) hlen).val fun H2 s2=>?_
  conv=>whnf
  rw[show stErr v=errsR v from if_neg (of_decide_eq_false h)]
theorem d40 (v : Vec) (hlen:v.length < 9223372036854775808) (H:PH) (x:Value) (hx:NumH H x v):Cl Tryz.prog 40 [x] H emp fun r _ _=>r=.tuple #[.int .i64 (wiresI v).1,.int .i64 (wiresI v).2]:=by
  obtain⟨base,cap,rfl,_⟩:=id hx
  refine Cl_of (pol:=polL) Γok Tryz.func40 (by kernel_rfl) rfl ?_
  conv=>whnf
  refine (d49 v hlen _ _ hx).val fun H1 s1=>?_
  conv=>whnf
  refine if_intro (fun h=>?_) (fun h=>?_)
  · conv=>whnf
    rw[show wiresI v=(0,stErr v) from if_pos (by simpa using h)]
  conv=>whnf
  refine (d72 v.length _).val fun H2 s2=>?_
  conv=>whnf
  rw[show wiresI v=(sizeI v.length,0) from if_neg (by simpa using h)]
theorem errs_at {l : Vec} {i:Nat} (hi:i < l.length) (h:errsR (l.drop i)=errsR l) (hn:checkR l[i].1 l[i].2 ≠ 0):errsR l=checkR l[i].1 l[i].2:=by
  rw[← h,errsR_step hi,if_neg hn]
theorem errs_on {l : Vec} {i:Nat} (hi:i < l.length) (h:errsR (l.drop i)=errsR l) (hn:checkR l[i].1 l[i].2=0):errsR (l.drop (i+1))=errsR l:=by
  rw[← h,errsR_step hi,if_pos hn]
set_option maxHeartbeats 1000000 in
theorem d44 (v : Vec) (hlen:v.length < 9223372036854775808) (H:PH) (x:Value) (hx:NumH H x v):Cl Tryz.prog 44 [x] H emp fun r _ _=>r=.tuple #[.int .i64 (wiresI v).1,.int .i64 (wiresI v).2]:=by
  obtain⟨base,cap,rfl,_⟩:=id hx
  refine Cl_of (pol:=polL) Γok Tryz.func44 (by kernel_rfl) rfl ?_
  conv=>whnf
  refine W_loop (pol:=polL) Γok (Nat × PH) (fun i=>i.1≤7∧Sub H i.2∧∀ q,q < i.1→v.length ≠ 2 ^ q) (fun i=>7 - i.1) (fun i=>[(8,.v (.int .i64 i.1))]) (fun _=>[]) (fun i=>i.2) (fun _=>emp) ⟨(0,H),⟨by simp,Sub.refl _,fun q hq=>by omega⟩,rfl,rfl,?_⟩ ?_
  · conv=>whnf
    repeat (refine⟨rfl,?_⟩;conv=>whnf)
    exact trivial
  rintro ⟨i,Hi⟩ ⟨h1i,hsi,hpi⟩
  dsimp only at h1i hsi hpi
  conv=>whnf
  refine if_intro (fun hci=>?_) (fun hci=>?_)
  · have hii:i < 7:=by
      have:=of_decide_eq_true hci
      omega
    conv=>whnf
    rw[shl_nat (by omega)]
    conv=>whnf
    refine if_intro (fun hy=>?_) (fun hy=>?_)
    · conv=>whnf
      have hy:v.length ≠ 2 ^ i:=fun e=>by
        rw[e] at hy
        simp at hy
      refine⟨(i+1,Hi),⟨by dsimp only;omega,hsi,fun q hq=>by
          rcases Nat.lt_succ_iff_lt_or_eq.1 hq with h | rfl
          · exact hpi q h
          · exact hy⟩,by dsimp only;omega,?_⟩
      refine⟨rfl,rfl,?_⟩
      conv=>whnf
      repeat (refine⟨rfl,?_⟩;conv=>whnf)
      refine⟨by show En.v (.int .i64 (IntKind.i64.wrap (i+1)))=_;rw[wrap_id (by omega) (by omega)]<;>rfl,?_⟩
      conv=>whnf
      repeat (refine⟨rfl,?_⟩;conv=>whnf)
      exact trivial
    have hy:v.length=2 ^ i:=by
      have:(v.length:Int)=((2 ^ i:Nat):Int):=by simpa using hy
      exact_mod_cast this
    have hsz:sizeI v.length=i:=by rw[hy];exact size_at i hii
    conv=>whnf
    refine W_loop (pol:=polL) Γok (Nat × PH) (fun i=>i.1≤v.length∧Sub Hi i.2∧errsR (v.drop i.1)=errsR v) (fun i=>v.length - i.1) (fun i=>[(18,.v (.int .i64 i.1))]) (fun _=>[]) (fun i=>i.2) (fun _=>emp) ⟨(0,Hi),⟨by simp,Sub.refl _,rfl⟩,rfl,rfl,?_⟩ ?_
    · conv=>whnf
      repeat (refine⟨rfl,?_⟩;conv=>whnf)
      exact trivial
    rintro ⟨j,Hj⟩ ⟨h1j,hsj,hpj⟩
    dsimp only at h1j hsj hpj
    conv=>whnf
    refine if_intro (fun hcj=>?_) (fun hcj=>?_)
    · have hij:j < v.length:=by
        have:=of_decide_eq_true hcj
        omega
      conv=>whnf
      obtain⟨_,b,off,rfl,hrd⟩:=(NumH.up hx (hsi.trans hsj)).rd (O:=emp) hij
      conv=>whnf
      refine dec_intro (by omega) ?_
      conv=>whnf
      refine⟨_,hrd,?_⟩
      conv=>whnf
      intro b6
      conv=>whnf
      refine (c93 v[j].1 v[j].2 _).val fun H1 s1=>?_
      rw[checkF_checkR]
      conv=>whnf
      refine if_intro (fun h=>?_) (fun h=>?_)
      · conv=>whnf
        have e:=errs_at hij hpj (by simpa using h)
        have h2:stErr v=checkR v[j].1 v[j].2:=by
          unfold stErr
          rw[if_neg (by omega),e]
        rw[show wiresI v=(0,checkR v[j].1 v[j].2) by unfold wiresI;rw[h2,if_pos (by simpa using h)]]
      conv=>whnf
      refine⟨(j+1,H1),⟨by dsimp only;omega,hsj.trans s1,errs_on hij hpj (by simpa using h)⟩,by dsimp only;omega,?_⟩
      refine⟨rfl,rfl,?_⟩
      conv=>whnf
      repeat (refine⟨rfl,?_⟩;conv=>whnf)
      refine⟨by show En.v (.int .i64 (IntKind.i64.wrap (j+1)))=_;rw[wrap_id (by omega) (by omega)]<;>rfl,?_⟩
      conv=>whnf
      repeat (refine⟨rfl,?_⟩;conv=>whnf)
      exact trivial
    have hij:j=v.length:=by
      have:=of_decide_eq_false hcj
      omega
    subst hij
    dsimp only
    conv=>whnf
    have e:errsR v=0:=by rw[← hpj,List.drop_length]<;>rfl
    have h2:stErr v=0:=by
      unfold stErr
      rw[if_neg (by omega),e]
    rw[show wiresI v=(sizeI v.length,0) by unfold wiresI;rw[h2,if_neg (by simp)],hsz]
  have hii:i=7:=by
    have:=of_decide_eq_false hci
    omega
  subst hii
  dsimp only
  conv=>whnf
  have h2:stErr v=2:=by
    unfold stErr
    rw[size_none hpi,if_pos (by decide)]
  rw[show wiresI v=(0,2) by unfold wiresI;rw[h2,if_pos (by simp)]]
theorem wires_err (v : Vec):(wiresI v).2=stErr v:=by
  unfold wiresI
  by_cases h:stErr v ≠ 0
  · rw[if_pos h]
  · rw[if_neg h]
    simp at h
    rw[h]
theorem d48 (v : Vec) (hlen:v.length < 9223372036854775808) (H:PH) (x:Value) (hx:NumH H x v):Cl Tryz.prog 48 [x] H emp fun r _ _=>r=.int .i64 (stErr v):=by
  obtain⟨base,cap,rfl,_⟩:=id hx
  refine Cl_of (pol:=polL) Γok Tryz.func48 (by kernel_rfl) rfl ?_
  conv=>whnf
  refine (d44 v hlen _ _ hx).val fun H1 s1=>?_
  rw[wires_err]
  conv=>whnf
end Go.Proofs.YtmhnalikebkhjaaGreatDoor

namespace Go.Proofs.YtmhnalikebkhjaaGreatDoor
open Go.Proofs.YtmhnalikebkhjaaGreatDoor.X Go.Proofs.YtmhnalikebkhjaaGreatDoor.X.PH
set_option maxRecDepth 100000
def OutVH (H : PH) (r:Value) (x:Vec × Int):Prop:=∃ u,r=.tuple #[u,.int .i64 x.2]∧NumH H u x.1
def OutVO (M : PH) (r:Value) (x:Vec × Int):Prop:=∃ u,r=.tuple #[u,.int .i64 x.2]∧NumO M u x.1
theorem OutVH.up {H H' : PH} {r:Value} {x:Vec × Int} (h:OutVH H r x) (hs:Sub H H'):OutVH H' r x:=by
  obtain⟨u,e,h⟩:=h
  exact⟨u,e,NumH.up h hs⟩
theorem nilV (H : PH):NumH H (.slice none 0 0) []:=⟨none,0,rfl,.inl ⟨rfl,rfl⟩⟩
theorem nilVO (O : PH):NumO O (.slice none 0 0) []:=⟨by simp,.inl ⟨rfl,rfl⟩⟩
theorem OutVO.bad {M : PH} {e:Int}:OutVO M (.tuple #[.slice none 0 0,.int .i64 e]) ([],e):=⟨_,rfl,nilVO M⟩
theorem OutVH.bad {M : PH} {e:Int}:OutVH M (.tuple #[.slice none 0 0,.int .i64 e]) ([],e):=⟨_,rfl,nilV M⟩
theorem vec_own {O : PH} {b:Nat} {l:Vec} (h:O b=some (.cells ⟨cellsN l⟩ 32 (0,0))):NumO O (.slice (some ⟨b,0,none⟩) l.length l.length) l:=by
  refine⟨fun x hx=>?_,.inr ⟨b,l.length,[],by simp,?_,by simp,by simp⟩⟩
  · obtain⟨y,_,rfl⟩:=List.mem_map.1 hx
    rfl
  · rw[h,List.append_nil]
    rfl
theorem vec_own' {O : PH} {b n:Nat} {l:Vec} (h:O b=some (.cells ⟨cellsN l⟩ 32 (0,0))) (hn:n=l.length):NumO O (.slice (some ⟨b,0,none⟩) n n) l:=by
  subst hn
  exact vec_own h
theorem Cl.outV {f : FuncId} {args:List Value} {H:PH} {x:Vec × Int} (h:Cl Tryz.prog f args H emp fun r _ M'=>OutVO M' r x):Cl Tryz.prog f args H emp fun r H' _=>OutVH H' r x:=
  h.repart fun _ _ _ _ hd h=>by
    obtain⟨u,e,h⟩:=h
    obtain⟨H',M',h1,h2⟩:=NumO.pub hd h
    exact⟨H',M',h1,u,e,h2⟩
theorem zeros_flat (w : Nat):(List.replicate w [Value.int .i64 0,.int .i64 0,.int .i64 0,.int .i64 0,.int .i64 0]).flatten=cellsN (zeros w):=by
  unfold cellsN zeros
  rw[List.map_replicate]
  rfl
theorem natI {a : Int} (h:0≤a):∃ n:Nat,a=n:=⟨a.toNat,by omega⟩
theorem pow6 {n : Nat} (hn:n≤6):2 ^ n≤64∧0 < 2 ^ n:=by
  have:2 ^ n≤2 ^ 6:=Nat.pow_le_pow_right (by decide) hn
  exact⟨by omega,Nat.pow_pos (by decide)⟩
theorem oneN_eq : oneN=((⟨1,0,0,0⟩:P4),0):=rfl
def basisBad (n k : Int):Bool:=decide (n < 0) || decide (n > 6) || decide (k < 0) || decide (k ≥ ((2 ^ n.toNat:Nat):Int))
def basisI (n k : Int):Vec × Int:=if basisBad n k=true then ([],3) else ((zeros (2 ^ n.toNat)).set k.toNat oneN,0)
theorem d41o (n k : Int) (H:PH):Cl Tryz.prog 41 [.int .i64 n,.int .i64 k] H emp fun r _ M'=>OutVO M' r (basisI n k):=by
  refine Cl_of (pol:=polL) Γok Tryz.func41 (by kernel_rfl) rfl ?_
  conv=>whnf
  have bad:basisBad n k=true→basisI n k=([],3):=fun h=>if_pos h
  refine if_intro (fun h1=>?_) (fun h1=>?_)
  · conv=>whnf
    rw[bad (by unfold basisBad;rw[h1]<;>rfl)]
    exact OutVO.bad
  conv=>whnf
  refine if_intro (fun h2=>?_) (fun h2=>?_)
  · conv=>whnf
    rw[bad (by unfold basisBad;rw[h1,h2]<;>rfl)]
    exact OutVO.bad
  conv=>whnf
  refine if_intro (fun h3=>?_) (fun h3=>?_)
  · conv=>whnf
    rw[bad (by unfold basisBad;rw[h1,h2,h3]<;>rfl)]
    exact OutVO.bad
  have g1:=of_decide_eq_false h1
  have g2:=of_decide_eq_false h2
  have g3:=of_decide_eq_false h3
  obtain⟨n,rfl⟩:=natI (a:=n) (by omega)
  obtain⟨k,rfl⟩:=natI (a:=k) (by omega)
  obtain⟨p1,p2⟩:=pow6 (n:=n) (by omega)
  conv=>whnf
  rw[shl_nat (by omega)]
  have e4:decide ((k:Int) ≥ ((2 ^ (n:Int).toNat:Nat):Int))=decide ((k:Int) ≥ ((2 ^ n:Nat):Int)):=by rw[Int.toNat_natCast]
  refine if_intro (fun h4=>?_) (fun h4=>?_)
  · conv=>whnf
    rw[bad (by unfold basisBad;rw[h1,h2,h3,e4,h4]<;>rfl)]
    exact OutVO.bad
  have g4:=of_decide_eq_false h4
  have hk:k < 2 ^ n:=by omega
  have eb:basisI n k=((zeros (2 ^ n)).set k oneN,0):=by
    unfold basisI basisBad
    rw[h1,h2,h3,e4,h4,if_neg (by simp),Int.toNat_natCast,Int.toNat_natCast]
  rw[eb]
  clear eb bad e4
  have key:∀ s:Nat,s=2 ^ n→(s:Int)=2 ^ n:=fun s h=>by rw[h];simp
  conv=>whnf
  rw[shl_nat (by omega)]
  obtain⟨s,hs⟩:∃ s,s=2 ^ n:=⟨_,rfl⟩
  rw[← hs] at hk p1 ⊢
  conv=>whnf
  refine dec_intro (Int.le_refl _) ?_
  conv=>whnf
  refine dec_intro (by omega) ?_
  conv=>whnf
  refine dec_intro (by omega) ?_
  conv=>whnf
  intro b hb hO
  rw[show (List.replicate (s:Int).toNat _).flatten=cellsN (zeros s) from zeros_flat s]
  conv=>whnf
  refine dec_intro (by omega) ?_
  conv=>whnf
  refine⟨_,_,ins_same _ _ _,?_,?_⟩
  · show _≤(cellsN (zeros s)).length
    rw[cellsN_length]
    simp[zeros]
    omega
  conv=>whnf
  refine⟨_,rfl,vec_own' ((ins_same _ _ _).trans ?_) (by simp[zeros])⟩
  congr 3
  refine (cellsN_setA (zeros s) k 1 (by simp[zeros];omega)).trans ?_
  simp[zeros,oneN_eq,P4.zero]
theorem d45o (n k : Int) (H:PH):Cl Tryz.prog 45 [.int .i64 n,.int .i64 k] H emp fun r _ M'=>OutVO M' r (basisI n k):=by
  refine Cl_of (pol:=polL) Γok Tryz.func45 (by kernel_rfl) rfl ?_
  conv=>whnf
  have bad:basisBad n k=true→basisI n k=([],3):=fun h=>if_pos h
  refine if_intro (fun h1=>?_) (fun h1=>?_)
  · conv=>whnf
    rw[bad (by unfold basisBad;rw[h1]<;>rfl)]
    exact OutVO.bad
  conv=>whnf
  refine if_intro (fun h2=>?_) (fun h2=>?_)
  · conv=>whnf
    rw[bad (by unfold basisBad;rw[h1,h2]<;>rfl)]
    exact OutVO.bad
  conv=>whnf
  refine if_intro (fun h3=>?_) (fun h3=>?_)
  · conv=>whnf
    rw[bad (by unfold basisBad;rw[h1,h2,h3]<;>rfl)]
    exact OutVO.bad
  have g1:=of_decide_eq_false h1
  have g2:=of_decide_eq_false h2
  have g3:=of_decide_eq_false h3
  obtain⟨n,rfl⟩:=natI (a:=n) (by omega)
  obtain⟨k,rfl⟩:=natI (a:=k) (by omega)
  obtain⟨p1,p2⟩:=pow6 (n:=n) (by omega)
  conv=>whnf
  rw[shl_nat (by omega)]
  have e4:decide ((k:Int) ≥ ((2 ^ (n:Int).toNat:Nat):Int))=decide ((k:Int) ≥ ((2 ^ n:Nat):Int)):=by rw[Int.toNat_natCast]
  refine if_intro (fun h4=>?_) (fun h4=>?_)
  · conv=>whnf
    rw[bad (by unfold basisBad;rw[h1,h2,h3,e4,h4]<;>rfl)]
    exact OutVO.bad
  have g4:=of_decide_eq_false h4
  have hk:k < 2 ^ n:=by omega
  have eb:basisI n k=((zeros (2 ^ n)).set k oneN,0):=by
    unfold basisI basisBad
    rw[h1,h2,h3,e4,h4,if_neg (by simp),Int.toNat_natCast,Int.toNat_natCast]
  rw[eb]
  clear eb bad e4
  have key:∀ s:Nat,s=2 ^ n→(s:Int)=2 ^ n:=fun s h=>by rw[h];simp
  conv=>whnf
  rw[shl_nat (by omega)]
  obtain⟨s,hs⟩:∃ s,s=2 ^ n:=⟨_,rfl⟩
  rw[← hs] at hk p1 ⊢
  conv=>whnf
  refine dec_intro (Int.le_refl _) ?_
  conv=>whnf
  refine dec_intro (by omega) ?_
  conv=>whnf
  refine dec_intro (by omega) ?_
  conv=>whnf
  intro b hb hO
  rw[show (List.replicate (s:Int).toNat _).flatten=cellsN (zeros s) from zeros_flat s]
  conv=>whnf
  refine (c54 0 _).val fun H1 s1=>?_
  conv=>whnf
  refine dec_intro (by omega) ?_
  conv=>whnf
  refine⟨_,_,ins_same _ _ _,?_,?_⟩
  · show _≤(cellsN (zeros s)).length
    rw[cellsN_length]
    simp[zeros]
    omega
  conv=>whnf
  refine⟨_,rfl,vec_own' ((ins_same _ _ _).trans ?_) (by simp[zeros])⟩
  congr 3
  exact cellsN_set (zeros s) k oneN (by simp[zeros];omega)
end Go.Proofs.YtmhnalikebkhjaaGreatDoor

namespace Go.Proofs.YtmhnalikebkhjaaGreatDoor
open Go.Proofs.YtmhnalikebkhjaaGreatDoor.X Go.Proofs.YtmhnalikebkhjaaGreatDoor.X.PH
set_option maxRecDepth 100000
theorem add_zero_L {o : P4 × Int} (h:IsL o):AddR (P4.zero,0) o=(o,0):=by
  obtain⟨o0,ok,ow⟩:=right_in h.ok
  obtain⟨e,_⟩:=Add_fits (x:=(P4.zero,0)) (y:=o) (by decide) h.ok
  rw[e]
  have e1:sumP (P4.zero,0) o=o.1:=by
    unfold sumP
    dsimp only
    rw[rz_zero,zero_pl,show (max 0 o.2 - o.2).toNat=0 by omega]
    rfl
  rw[e1,show max (P4.zero,(0:Int)).2 o.2=o.2 by dsimp only;omega]
  unfold fitsR
  rw[h.form,if_neg (by rw[← checkF_checkR,h.ok];simp)]
theorem sum_two {o y : P4 × Int} (ho:IsL o) (hy:checkR y.1 y.2=0):SumF [o,y]=AddR o y:=by
  have he:errsF [o,y]=0:=by
    rw[← errs_same]
    unfold errsR
    have hy':checkF y.1 y.2=0:=by rw[checkF_checkR];exact hy
    simp[firstErr,← checkF_checkR,hy',ho.ok]
  unfold SumF
  rw[if_neg (by rw[he];simp)]
  unfold sumG
  rw[Add_eq,add_zero_L ho,if_neg (by simp)]
  unfold sumG
  rw[Add_eq]
  by_cases h:(AddR o y).2 ≠ 0
  · rw[if_pos h]
    exact Prod.ext (AddR_zero h).symm rfl
  · rw[if_neg h]
    unfold sumG
    simp at h
    exact Prod.ext rfl h.symm
theorem norm_right {x : P4 × Int} (h:(NormR x).2=0):checkR (NormR x).1.1 (NormR x).1.2=0:=by
  unfold NormR at h ⊢
  by_cases h1:checkR x.1 x.2 ≠ 0
  · rw[if_pos h1] at h
    exact absurd h h1
  · rw[if_neg h1] at h ⊢
    unfold fitsR at h ⊢
    by_cases h2:checkR (formR (productR x.1 (conjP x.1)) (wr (x.2+x.2))).1 (formR (productR x.1 (conjP x.1)) (wr (x.2+x.2))).2 ≠ 0
    · rw[if_pos h2] at h;cases h
    · rw[if_neg h2]
      simpa using h2
def nstep (o x : P4 × Int):(P4 × Int) × Int:=if (NormR x).2 ≠ 0 then NormR x else AddR o (NormR x).1
theorem nstep_L {o x : P4 × Int} (h:(nstep o x).2=0):IsL (nstep o x).1:=by
  unfold nstep at h ⊢
  by_cases h1:(NormR x).2 ≠ 0
  · rw[if_pos h1] at h;exact absurd h h1
  · rw[if_neg h1] at h ⊢
    exact Add_L h
def normG : P4 × Int→Vec→(P4 × Int) × Int
  | o,[]=>(o,0)
  | o,x::l=>if (nstep o x).2 ≠ 0 then ((P4.zero,0),(nstep o x).2) else normG (nstep o x).1 l
theorem normG_step {o : P4 × Int} {l:Vec} {i:Nat} (hi:i < l.length):normG o (l.drop i)=if (nstep o l[i]).2 ≠ 0 then ((P4.zero,0),(nstep o l[i]).2) else normG (nstep o l[i]).1 (l.drop (i+1)):=by
  rw[List.drop_eq_getElem_cons hi]
  rfl
def NormV (v : Vec):(P4 × Int) × Int:=if stErr v ≠ 0 then ((P4.zero,0),stErr v) else normG (P4.zero,0) v
theorem d69 (l : Vec) (hl:l.length < 1000000) (H:PH) (u:Value) (hu:NumH H u l):Cl Tryz.prog 69 [u] H emp fun r _ _=>r=ne (SumF l):=by
  obtain⟨base,cap,rfl,_⟩:=id hu
  refine Cl_of (pol:=polL) Γok Tryz.func69 (by kernel_rfl) rfl ?_
  conv=>whnf
  intro b1
  conv=>whnf
  refine (c132 l hl _ _ hu).val fun H1 s1=>?_
  conv=>whnf
  rfl
set_option maxHeartbeats 1000000 in
theorem d42 (v : Vec) (hlen:v.length < 9223372036854775808) (H:PH) (x:Value) (hx:NumH H x v):Cl Tryz.prog 42 [x] H emp fun r _ _=>r=ne (NormV v):=by
  obtain⟨base,cap,rfl,_⟩:=id hx
  refine Cl_of (pol:=polL) Γok Tryz.func42 (by kernel_rfl) rfl ?_
  conv=>whnf
  intro b1
  conv=>whnf
  refine (d49 v hlen _ _ hx).val fun Ha sa=>?_
  conv=>whnf
  refine if_intro (fun h=>?_) (fun h=>?_)
  · conv=>whnf
    rw[show NormV v=((P4.zero,0),stErr v) from if_pos (by simpa using h)]
    rfl
  rw[show NormV v=normG (P4.zero,0) v from if_neg (by simpa using h)]
  replace hx:=NumH.up hx sa
  conv=>whnf
  intro b2
  conv=>whnf
  refine W_loop (pol:=polL) Γok (Nat × PH × (P4 × Int)) (fun i=>i.1≤v.length∧Sub Ha i.2.1∧IsL i.2.2∧normG i.2.2 (v.drop i.1)=normG (P4.zero,0) v) (fun i=>v.length - i.1) (fun i=>[(6,.v (.int .i64 i.1))]) (fun i=>[(1,cellsOf i.2.2)]) (fun i=>i.2.1) (fun _=>emp) ⟨(0,Ha,(P4.zero,0)),⟨by simp,Sub.refl _,zero_L,rfl⟩,rfl,rfl,?_⟩ ?_
  · conv=>whnf
    repeat (refine⟨rfl,?_⟩;conv=>whnf)
    exact trivial
  rintro ⟨i,Hi,o⟩ ⟨h1i,hsi,hoL,hpi⟩
  dsimp only at h1i hsi hoL hpi
  conv=>whnf
  refine if_intro (fun hci=>?_) (fun hci=>?_)
  · have hii:i < v.length:=by
      have:=of_decide_eq_true hci
      omega
    obtain⟨_,b,off,rfl,hrd⟩:=(NumH.up hx hsi).rd (O:=emp) hii
    rw[normG_step hii] at hpi
    conv=>whnf
    refine dec_intro (by omega) ?_
    conv=>whnf
    refine⟨_,hrd,?_⟩
    conv=>whnf
    refine (d92 v[i] _).val fun Hb sb=>?_
    conv=>whnf
    intro b3
    conv=>whnf
    refine if_intro (fun hn=>?_) (fun hn=>?_)
    · have hn:(NormR v[i]).2=0:=by simpa using hn
      have est:nstep o v[i]=AddR o (NormR v[i]).1:=if_neg (by simpa using hn)
      conv=>whnf
      refine (c105 o (NormR v[i]).1 _).val fun Hd sd=>?_
      conv=>whnf
      refine if_intro (fun he=>?_) (fun he=>?_)
      · conv=>whnf
        rw[est,if_pos (by simpa using he)] at hpi
        rw[← hpi]
        rfl
      conv=>whnf
      refine⟨(i+1,Hd,(AddR o (NormR v[i]).1).1),⟨by dsimp only;omega,hsi.trans (sb.trans sd),by rw[← est];exact nstep_L (by rw[est];simpa using he),?_⟩,by dsimp only;omega,?_⟩
      · dsimp only
        rw[← hpi,est,if_neg (by simpa using he)]
      refine⟨rfl,rfl,?_⟩
      conv=>whnf
      repeat (refine⟨rfl,?_⟩;conv=>whnf)
      refine⟨by show En.v (.int .i64 (IntKind.i64.wrap (i+1)))=_;rw[wrap_id (by omega) (by omega)]<;>rfl,?_⟩
      conv=>whnf
      repeat (refine⟨rfl,?_⟩;conv=>whnf)
      exact trivial
    have hn:(NormR v[i]).2 ≠ 0:=by simpa using hn
    have est:nstep o v[i]=NormR v[i]:=if_pos hn
    conv=>whnf
    refine if_intro (fun he=>?_) (fun he=>?_)
    · conv=>whnf
      rw[est,if_pos hn] at hpi
      rw[← hpi]
      rfl
    exfalso
    exact hn (by simpa using he)
  have hii:i=v.length:=by
    have:=of_decide_eq_false hci
    omega
  subst hii
  rw[List.drop_length] at hpi
  conv=>whnf
  have e9:normG (P4.zero,0) v=(o,0):=hpi.symm
  rw[e9]
  rfl
set_option maxHeartbeats 1000000 in
theorem d68 (v : Vec) (hlen:v.length < 9223372036854775808) (H:PH) (x:Value) (hx:NumH H x v):Cl Tryz.prog 68 [x] H emp fun r _ _=>r=ne (normG (P4.zero,0) v):=by
  obtain⟨base,cap,rfl,_⟩:=id hx
  refine Cl_of (pol:=(fun | 26=>.imm | _=>.loc)) Γok Tryz.func68 (by kernel_rfl) rfl ?_
  conv=>whnf
  intro b1
  conv=>whnf
  intro b2
  conv=>whnf
  refine W_loop (pol:=(fun | 26=>.imm | _=>.loc)) Γok (Nat × PH × (P4 × Int)) (fun i=>i.1≤v.length∧Sub H i.2.1∧IsL i.2.2∧normG i.2.2 (v.drop i.1)=normG (P4.zero,0) v) (fun i=>v.length - i.1) (fun i=>[(12,.v (.int .i64 i.1))]) (fun i=>[(1,cellsOf i.2.2)]) (fun i=>i.2.1) (fun _=>emp) ⟨(0,H,(P4.zero,0)),⟨by simp,Sub.refl _,zero_L,rfl⟩,rfl,rfl,?_⟩ ?_
  · conv=>whnf
    repeat (refine⟨rfl,?_⟩;conv=>whnf)
    exact trivial
  rintro ⟨i,Hi,o⟩ ⟨h1i,hsi,hoL,hpi⟩
  dsimp only at h1i hsi hoL hpi
  conv=>whnf
  refine if_intro (fun hci=>?_) (fun hci=>?_)
  · have hii:i < v.length:=by
      have:=of_decide_eq_true hci
      omega
    obtain⟨_,b,off,rfl,hrd⟩:=(NumH.up hx hsi).rd (O:=emp) hii
    rw[normG_step hii] at hpi
    conv=>whnf
    refine dec_intro (by omega) ?_
    conv=>whnf
    refine⟨_,hrd,?_⟩
    conv=>whnf
    intro b5
    conv=>whnf
    refine (d110 v[i] _).val fun Hb sb=>?_
    conv=>whnf
    intro b3
    conv=>whnf
    refine if_intro (fun hn=>?_) (fun hn=>?_)
    · have hn:(NormR v[i]).2=0:=by simpa using hn
      have est:nstep o v[i]=AddR o (NormR v[i]).1:=if_neg (by simpa using hn)
      conv=>whnf
      intro b4 hb4 hO4
      conv=>whnf
      have s4:=sub_ins Hb (.cells ⟨cellsN [o,(NormR v[i]).1]⟩ 32 (0,0)) hb4
      have hc:=d69 [o,(NormR v[i]).1] (by simp) _ (.slice (some ⟨b4,0,none⟩) 2 2) (⟨_,_,rfl,.inr ⟨b4,0,_,_,_,rfl,ins_same Hb b4 (.cells ⟨cellsN [o,(NormR v[i]).1]⟩ 32 (0,0)),rfl⟩⟩)
      rw[sum_two hoL (norm_right hn)] at hc
      refine hc.val fun Hd sd=>?_
      clear hc
      conv=>whnf
      refine if_intro (fun he=>?_) (fun he=>?_)
      · conv=>whnf
        rw[est,if_pos (by simpa using he)] at hpi
        rw[← hpi]
        rfl
      conv=>whnf
      refine⟨(i+1,Hd,(AddR o (NormR v[i]).1).1),⟨by dsimp only;omega,hsi.trans (sb.trans (s4.trans sd)),by rw[← est];exact nstep_L (by rw[est];simpa using he),?_⟩,by dsimp only;omega,?_⟩
      · dsimp only
        rw[← hpi,est,if_neg (by simpa using he)]
      refine⟨rfl,rfl,?_⟩
      conv=>whnf
      repeat (refine⟨rfl,?_⟩;conv=>whnf)
      refine⟨by show En.v (.int .i64 (IntKind.i64.wrap (i+1)))=_;rw[wrap_id (by omega) (by omega)]<;>rfl,?_⟩
      conv=>whnf
      repeat (refine⟨rfl,?_⟩;conv=>whnf)
      exact trivial
    have hn:(NormR v[i]).2 ≠ 0:=by simpa using hn
    have est:nstep o v[i]=NormR v[i]:=if_pos hn
    conv=>whnf
    refine if_intro (fun he=>?_) (fun he=>?_)
    · conv=>whnf
      rw[est,if_pos hn] at hpi
      rw[← hpi]
      rfl
    exfalso
    exact hn (by simpa using he)
  have hii:i=v.length:=by
    have:=of_decide_eq_false hci
    omega
  subst hii
  rw[List.drop_length] at hpi
  conv=>whnf
  have e9:normG (P4.zero,0) v=(o,0):=hpi.symm
  rw[e9]
  rfl
theorem d46 (v : Vec) (hlen:v.length < 9223372036854775808) (H:PH) (x:Value) (hx:NumH H x v):Cl Tryz.prog 46 [x] H emp fun r _ _=>r=ne (NormV v):=by
  obtain⟨base,cap,rfl,_⟩:=id hx
  refine Cl_of (pol:=polL) Γok Tryz.func46 (by kernel_rfl) rfl ?_
  conv=>whnf
  intro b1
  conv=>whnf
  refine (d48 v hlen _ _ hx).val fun Ha sa=>?_
  conv=>whnf
  refine if_intro (fun h=>?_) (fun h=>?_)
  · conv=>whnf
    rw[show NormV v=((P4.zero,0),stErr v) from if_pos (by simpa using h)]
    rfl
  rw[show NormV v=normG (P4.zero,0) v from if_neg (by simpa using h)]
  conv=>whnf
  refine (d68 v hlen _ _ (NumH.up hx sa)).val fun Hb sb=>?_
  conv=>whnf
  rfl
end Go.Proofs.YtmhnalikebkhjaaGreatDoor

namespace Go.Proofs.YtmhnalikebkhjaaGreatDoor
open Go.Proofs.YtmhnalikebkhjaaGreatDoor.X Go.Proofs.YtmhnalikebkhjaaGreatDoor.X.PH
set_option maxRecDepth 100000
def leastV (v : Vec):Vec:=v.map fun x=>(LeastF x.1 x.2).1
theorem leastV_len (v : Vec):(leastV v).length=v.length:=by simp[leastV]
def mixV (v : Vec) (i:Nat):Vec:=(leastV v).take i++v.drop i
theorem mixV_len (v : Vec) {i:Nat} (h:i≤v.length):(mixV v i).length=v.length:=by
  simp[mixV,leastV]
  omega
theorem mixV_set (v : Vec) {i:Nat} (h:i < v.length):(mixV v i).set i (LeastF v[i].1 v[i].2).1=mixV v (i+1):=by
  have hl:((leastV v).take i).length=i:=by rw[List.length_take,leastV_len];omega
  unfold mixV
  rw[List.set_append_right _ _ (by omega),hl,Nat.sub_self,List.drop_eq_getElem_cons h,List.set_cons_zero,List.take_succ_eq_append_getElem (by rw[leastV_len];exact h),List.append_assoc]
  simp[leastV]
theorem mixV_end (v : Vec):mixV v v.length=leastV v:=by
  unfold mixV
  rw[List.drop_length,List.append_nil,List.take_of_length_le (by rw[leastV_len];exact Nat.le_refl _)]
set_option maxHeartbeats 1000000 in
theorem d95x (v : Vec) (hlen:v.length < 1000000) (H:PH) (x:Value) (hx:NumH H x v):Cl Tryz.prog 95 [x] H emp fun r _ M'=>∃ b,r=.slice (some ⟨b,0,none⟩) v.length v.length∧M' b=some (.cells ⟨cellsN (leastV v)⟩ 32 (0,0)):=by
  obtain⟨base,cap,rfl,_⟩:=id hx
  refine Cl_of (pol:=polL) Γok Tryz.func95 (by kernel_rfl) rfl ?_
  conv=>whnf
  refine dec_intro (Int.le_refl _) ?_
  conv=>whnf
  refine dec_intro (by omega) ?_
  conv=>whnf
  refine dec_intro (by omega) ?_
  conv=>whnf
  intro bw hbw hOw
  conv=>whnf
  unfold copyK
  refine⟨some ⟨bw,0,none⟩,v.length,v.length,base,v.length,cap,cellsN v,rfl,rfl,by rw[Nat.min_self,cellsN_length],cellsN_one v,(NumH.whole hx).1,fun a ha hp=>?_,fun h=>(by cases h),fun a ha=>⟨bw,0,(List.replicate v.length [Value.int .i64 0,.int .i64 0,.int .i64 0,.int .i64 0,.int .i64 0]).flatten,_,(by cases ha;rfl),ins_same _ _ _,by simp,?_⟩⟩
  · rw[Nat.min_self] at hp ⊢
    exact (NumH.whole hx).2 _ a ha hp
  have ec:(List.replicate v.length [Value.int .i64 0,.int .i64 0,.int .i64 0,.int .i64 0,.int .i64 0]).flatten.take 0++cellsN v++(List.replicate v.length [Value.int .i64 0,.int .i64 0,.int .i64 0,.int .i64 0,.int .i64 0]).flatten.drop (0+min v.length v.length*5)=cellsN (mixV v 0):=by
    rw[Nat.min_self,List.take_zero,List.nil_append,List.drop_of_length_le (by simp),List.append_nil]
    rfl
  rw[ec]
  conv=>whnf
  refine W_loop (pol:=polL) Γok (Nat × PH × PH) (fun i=>i.1≤v.length∧Sub H i.2.1∧i.2.2 bw=some (.cells ⟨cellsN (mixV v i.1)⟩ 32 (0,0))) (fun i=>v.length - i.1) (fun i=>[(14,.v (.int .i64 i.1))]) (fun _=>[]) (fun i=>i.2.1) (fun i=>i.2.2) ⟨(0,H,_),⟨by simp,Sub.refl _,ins_same _ _ _⟩,rfl,rfl,?_⟩ ?_
  · conv=>whnf
    repeat (refine⟨rfl,?_⟩;conv=>whnf)
    exact trivial
  rintro ⟨i,Hi,Oi⟩ ⟨h1i,hsi,hO⟩
  dsimp only at h1i hsi hO
  conv=>whnf
  refine if_intro (fun hci=>?_) (fun hci=>?_)
  · have hii:i < v.length:=by
      have:=of_decide_eq_true hci
      omega
    obtain⟨_,b,off,rfl,hrd⟩:=(NumH.up hx hsi).rd (O:=Oi) hii
    conv=>whnf
    refine dec_intro (by omega) ?_
    conv=>whnf
    refine⟨_,hrd,?_⟩
    conv=>whnf
    intro b5
    conv=>whnf
    refine (c83 v[i].1 v[i].2 _).val fun Hb sb=>?_
    conv=>whnf
    refine dec_intro (by omega) ?_
    conv=>whnf
    refine⟨_,_,hO,?_,?_⟩
    · show _≤(cellsN (mixV v i)).length
      rw[cellsN_length,mixV_len v h1i]
      simp
      omega
    conv=>whnf
    refine⟨(i+1,Hb,ins Oi bw (.cells ⟨(cellsN (mixV v i)).take (0+i*5)++cellsOf (LeastF v[i].1 v[i].2).1++(cellsN (mixV v i)).drop (0+i*5+5)⟩ 32 (0,0))),⟨by dsimp only;omega,hsi.trans sb,?_⟩,by dsimp only;omega,?_⟩
    · refine (ins_same _ _ _).trans ?_
      congr 3
      rw[← mixV_set v hii]
      exact cellsN_set (mixV v i) i _ (by rw[mixV_len v h1i];exact hii)
    refine⟨rfl,rfl,?_⟩
    conv=>whnf
    repeat (refine⟨rfl,?_⟩;conv=>whnf)
    refine⟨by show En.v (.int .i64 (IntKind.i64.wrap (i+1)))=_;rw[wrap_id (by omega) (by omega)]<;>rfl,?_⟩
    conv=>whnf
    repeat (refine⟨rfl,?_⟩;conv=>whnf)
    exact trivial
  have hii:i=v.length:=by
    have:=of_decide_eq_false hci
    omega
  subst hii
  conv=>whnf
  rw[mixV_end] at hO
  exact⟨bw,rfl,hO⟩
theorem d95 (v : Vec) (hlen:v.length < 1000000) (H:PH) (x:Value) (hx:NumH H x v):Cl Tryz.prog 95 [x] H emp fun r _ M'=>NumO M' r (leastV v):=
  (d95x v hlen H x hx).mono fun r H' M' _ h=>by
    obtain⟨b,rfl,hO⟩:=h
    exact vec_own' hO (leastV_len v).symm
theorem OwnS.nums {H M : PH} {v:Value} {l:Vec} (hd:Dis H M) (h:NumO M v l):∃ H' M',Repart H M H' M'∧NumH H' v l:=NumO.pub hd h
theorem d95' (v : Vec) (hlen:v.length < 1000000) (H:PH) (x:Value) (hx:NumH H x v):Cl Tryz.prog 95 [x] H emp fun r H' _=>NumH H' r (leastV v):=
  (d95 v hlen H x hx).repart fun _ _ _ _ hd h=>by
    obtain⟨H',M',h1,h2⟩:=NumO.pub hd h
    exact⟨H',M',h1,h2⟩
theorem all_cong {α : Type} {p q:α→Bool}:∀ {l:List α},(∀ x∈l,p x=q x)→l.all p=l.all q
  | [],_=>rfl
  | x::l,h=>by
    rw[List.all_cons,List.all_cons,h x (by simp),all_cong fun y hy=>h y (by simp[hy])]
def phV (v u : Vec) (k i:Nat):Bool:=eqN ((leastV v).getD i (P4.zero,0)) (MulF (OmegaF k) (u.getD i (P4.zero,0))).1
def PhaseV (v u : Vec):Int × Int:=if stErr v ≠ 0 then (0,stErr v) else if stErr u ≠ 0 then (0,stErr u) else if v.length ≠ u.length then (0,7) else match (List.range 8).find? (fun k=>(List.range u.length).all (phV v u k)) with
  | some k=>(k,0)
  | none=>(0,6)
theorem stErr_right {v : Vec} (h:stErr v=0):(∀ x∈v,checkF x.1 x.2=0)∧∃ q:Nat,q < 7∧v.length=2 ^ q∧sizeI v.length=q:=by
  unfold stErr at h
  by_cases h1:sizeI v.length < 0
  · rw[if_pos h1] at h;cases h
  · rw[if_neg h1] at h
    refine⟨fun x hx=>?_,size_some h1⟩
    rw[checkF_checkR]
    exact firstErr_zero h _ (List.mem_map.2 ⟨x,hx,rfl⟩)
theorem one_row_mat {v : Vec} (h:stErr v=0):checkMF [v]=0∧wideM [v]=v.length:=by
  obtain⟨h1,q,hq,hl,_⟩:=stErr_right h
  obtain⟨p1,p2⟩:=pow6 (n:=q) (by omega)
  have hw:wideM [v]=v.length:=rfl
  refine⟨?_,hw⟩
  have rm:Right [v]:=⟨by simp,by simp,fun r hr=>by simp at hr;rw[hr,hw],by rw[hw];omega,by rw[hw];omega⟩
  have hc:checkMF [v]=0:=check_grid rm fun i k hi hk=>by
    have hi0:i=0:=by simpa using hi
    subst hi0
    rw[hw] at hk
    have:entry [v] 0 k=v[k]:=by simp[entry,hk]
    rw[this]
    exact h1 _ (List.getElem_mem hk)
  exact hc
theorem PhaseV_ref {v u : Vec} (h:stErr v=0) (h':stErr u=0):PhaseV v u=PhaseR [v] [u]:=by
  obtain⟨e1,w1⟩:=one_row_mat h
  obtain⟨e2,w2⟩:=one_row_mat h'
  have he:errsM [[v],[u]]=0:=by simp[errsM,firstErr,e1,e2]
  rw[← phase_eq]
  unfold PhaseV PhaseF
  rw[h,h',he]
  simp only[ne_eq,not_true_eq_false,if_false]
  have ea:alikeF [v] [u]=(v.length == u.length):=by
    unfold alikeF
    rw[w1,w2]
    apply Bool.eq_iff_iff.2
    simp
    omega
  by_cases hl:v.length=u.length
  · rw[if_neg (not_not_intro hl),if_neg (by rw[ea,beq_iff_eq.2 hl];simp)]
    congr 2
    funext k
    unfold allPh
    rw[w1,show [v].length*v.length=u.length by rw[List.length_singleton,Nat.one_mul];exact hl]
    refine all_cong fun i hi=>?_
    have hi:=List.mem_range.1 hi
    unfold phV samePh
    rw[w1,Nat.div_eq_of_lt (by omega),Nat.mod_eq_of_lt (by omega)]
    simp[entry,leastV,List.getD_eq_getElem?_getD,show i < v.length by omega,hi]
  · rw[if_pos hl,if_pos (by rw[ea];exact beq_false_of_ne hl)]
end Go.Proofs.YtmhnalikebkhjaaGreatDoor

namespace Go.Proofs.YtmhnalikebkhjaaGreatDoor
open Go.Proofs.YtmhnalikebkhjaaGreatDoor.X Go.Proofs.YtmhnalikebkhjaaGreatDoor.X.PH
set_option maxRecDepth 100000
theorem vec_mat {H : PH} {b:Nat} {x:Value} {v:Vec} {t:TypeId} {fr:Nat × Nat} (hb:H b=some (.cells ⟨[x]⟩ t fr)) (hx:NumH H x v):MatH H (.slice (some ⟨b,0,none⟩) 1 1) [v]:=by
  refine⟨[x],rfl,⟨_,_,rfl,.inr ⟨b,0,_,_,_,rfl,hb,rfl⟩⟩,fun i r u hr hu=>?_⟩
  cases i with
  | zero=>
    cases hr
    cases hu
    exact hx
  | succ i=>cases hr
theorem d43 (v u : Vec) (hv:v.length < 9223372036854775808) (hu:u.length < 9223372036854775808) (H:PH) (x y:Value) (hx:NumH H x v) (hy:NumH H y u) :
    Cl Tryz.prog 43 [x,y] H emp fun r _ _=>r=.tuple #[.int .i64 (PhaseV v u).1,.int .i64 (PhaseV v u).2]:=by
  obtain⟨xb,xc,rfl,_⟩:=id hx
  obtain⟨yb,yc,rfl,_⟩:=id hy
  refine Cl_of (pol:=(fun | 19=>.imm | 21=>.imm | _=>.loc)) Γok Tryz.func43 (by kernel_rfl) rfl ?_
  conv=>whnf
  refine (d49 v hv _ _ hx).val fun Ha sa=>?_
  conv=>whnf
  refine if_intro (fun h=>?_) (fun h=>?_)
  · conv=>whnf
    rw[show PhaseV v u=(0,stErr v) from if_pos (by simpa using h)]
  conv=>whnf
  refine (d49 u hu _ _ (NumH.up hy sa)).val fun Hb sb=>?_
  conv=>whnf
  refine if_intro (fun h'=>?_) (fun h'=>?_)
  · conv=>whnf
    rw[show PhaseV v u=(0,stErr u) by unfold PhaseV;rw[if_neg (by simpa using h),if_pos (by simpa using h')]]
  rw[PhaseV_ref (by simpa using h) (by simpa using h')]
  conv=>whnf
  intro b1 hb1 _
  conv=>whnf
  intro b2 hb2 _
  conv=>whnf
  have s1:=sub_ins Hb (.cells ⟨[.slice xb v.length xc]⟩ 25 (0,0)) hb1
  have s2:=sub_ins _ (.cells ⟨[.slice yb u.length yc]⟩ 25 (0,0)) hb2
  have hx2:=NumH.up (NumH.up (NumH.up (NumH.up hx sa) sb) s1) s2
  have hy2:=NumH.up (NumH.up (NumH.up (NumH.up hy sa) sb) s1) s2
  refine (c32 [v] [u] (fun k x _=>MulR_bounds _ _) _ _ _ (vec_mat (s2 _ _ (ins_same _ _ _)) hx2) (vec_mat (ins_same _ _ _) hy2)).val fun H3 s3=>?_
  conv=>whnf
set_option maxHeartbeats 2000000 in
theorem d47 (v u : Vec) (hv:v.length < 9223372036854775808) (hu:u.length < 9223372036854775808) (H:PH) (x y:Value) (hx:NumH H x v) (hy:NumH H y u) :
    Cl Tryz.prog 47 [x,y] H emp fun r _ _=>r=.tuple #[.int .i64 (PhaseV v u).1,.int .i64 (PhaseV v u).2]:=by
  obtain⟨xb,xc,rfl,_⟩:=id hx
  obtain⟨yb,yc,rfl,_⟩:=id hy
  refine Cl_of (pol:=polL) Γok Tryz.func47 (by kernel_rfl) rfl ?_
  conv=>whnf
  refine (d48 v hv _ _ hx).val fun Ha sa=>?_
  conv=>whnf
  refine if_intro (fun h=>?_) (fun h=>?_)
  · conv=>whnf
    rw[show PhaseV v u=(0,stErr v) from if_pos (by simpa using h)]
  conv=>whnf
  refine (d48 u hu _ _ (NumH.up hy sa)).val fun Hb sb=>?_
  conv=>whnf
  refine if_intro (fun h'=>?_) (fun h'=>?_)
  · conv=>whnf
    rw[show PhaseV v u=(0,stErr u) by unfold PhaseV;rw[if_neg (by simpa using h),if_pos (by simpa using h')]]
  obtain⟨rv,q1,hq1,lv1,_⟩:=stErr_right (v:=v) (by simpa using h)
  obtain⟨ru,q2,hq2,lu2,_⟩:=stErr_right (v:=u) (by simpa using h')
  have pw:=pow6 (n:=q1) (by omega)
  have pw2:=pow6 (n:=q2) (by omega)
  conv=>whnf
  refine if_intro (fun hl0=>?_) (fun hl0=>?_)
  · conv=>whnf
    rw[show PhaseV v u=(0,7) by unfold PhaseV;rw[if_neg (by simpa using h),if_neg (by simpa using h'),if_pos (by simp at hl0;omega)]]
  have hvu:v.length=u.length:=by
    have:(v.length:Int)=u.length:=by simpa using hl0
    omega
  have e0:PhaseV v u=match (List.range 8).find? (fun k=>(List.range u.length).all (phV v u k)) with
    | some k=>(k,0)
    | none=>(0,6):=by unfold PhaseV;rw[if_neg (by simpa using h),if_neg (by simpa using h'),if_neg (by omega)]<;>rfl
  conv=>whnf
  refine (d95' v (by omega) _ _ (NumH.up (NumH.up hx sa) sb)).use fun a Hc sc ha=>?_
  obtain⟨_,hl⟩:=ha
  obtain⟨ab,ac,rfl,_⟩:=id hl
  have hy3:=NumH.up (NumH.up (NumH.up hy sa) sb) sc
  rw[leastV_len] at hl
  conv=>whnf
  refine W_loop (pol:=polL) Γok (Nat × PH) (fun i=>i.1≤8∧Sub Hc i.2∧∀ q,q < i.1→(List.range u.length).all (phV v u q)=false) (fun i=>8 - i.1) (fun i=>[(31,.v (.int .i64 i.1))]) (fun _=>[]) (fun i=>i.2) (fun _=>emp) ⟨(0,Hc),⟨by simp,Sub.refl _,fun q hq=>by omega⟩,rfl,rfl,?_⟩ ?_
  · conv=>whnf
    repeat (refine⟨rfl,?_⟩;conv=>whnf)
    exact trivial
  rintro ⟨i,Hi⟩ ⟨h1i,hsi,hpi⟩
  dsimp only at h1i hsi hpi
  conv=>whnf
  refine if_intro (fun hci=>?_) (fun hci=>?_)
  · have hii:i < 8:=by
      have:=of_decide_eq_true hci
      omega
    conv=>whnf
    refine W_loop (pol:=polL) Γok (Nat × PH) (fun z=>z.1≤u.length∧Sub Hi z.2∧∀ q,q < z.1→phV v u i q=true) (fun i=>u.length - i.1) (fun i=>[(36,.v (.int .i64 i.1))]) (fun _=>[]) (fun i=>i.2) (fun _=>emp) ⟨(0,Hi),⟨by simp,Sub.refl _,fun q hq=>by omega⟩,rfl,rfl,?_⟩ ?_
    · conv=>whnf
      repeat (refine⟨rfl,?_⟩;conv=>whnf)
      exact trivial
    rintro ⟨j,Hj⟩ ⟨h1j,hsj,hpj⟩
    dsimp only at h1j hsj hpj
    conv=>whnf
    refine if_intro (fun hcj=>?_) (fun hcj=>?_)
    · have hij:j < u.length:=by
        have:=of_decide_eq_true hcj
        omega
      conv=>whnf
      obtain⟨_,b,off,rfl,hrd⟩:=(NumH.up hy3 (hsi.trans hsj)).rd (O:=emp) hij
      conv=>whnf
      refine dec_intro (by omega) ?_
      conv=>whnf
      refine⟨_,hrd,?_⟩
      conv=>whnf
      intro b11
      conv=>whnf
      refine W_draw (pol:=polL) Γok mixes [(0,.pendO),(2,.pend),(1,.lock),(3,.lock),(4,.pendO),(5,.pendO),(6,.pendH),(7,.late),(8,.lock),(9,.pendO)] 57 (by kernel_rfl) rfl ?_
      conv=>whnf
      refine (c54 i _).val fun H1 s1=>?_
      conv=>whnf
      refine (c104 (OmegaF i) u[j] _).val fun H2 s2=>?_
      conv=>whnf
      intro b12
      conv=>whnf
      refine W_draw (pol:=polL) Γok mixes [(0,.pendO),(1,.pendO),(2,.pendO),(3,.pendO),(4,.pendO),(5,.pendO)] 57 (by kernel_rfl) rfl ?_
      conv=>whnf
      have hij2:j < (leastV v).length:=by rw[leastV_len];omega
      obtain⟨hq,b',off',rfl,hrd'⟩:=(NumH.up hl ((hsi.trans hsj).trans (s1.trans s2))).rd (O:=emp) hij2
      conv=>whnf
      refine dec_intro (by omega) ?_
      conv=>whnf
      refine⟨_,hrd',?_⟩
      conv=>whnf
      have ephi:phV v u i j=!(!eqN (MulF (OmegaF i) u[j]).1 (leastV v)[j]):=by
        unfold phV
        rw[Bool.not_not]
        have e1:(leastV v).getD j (P4.zero,0)=(leastV v)[j]:=by simp[List.getD_eq_getElem?_getD,hij2]
        have e2:u.getD j (P4.zero,0)=u[j]:=by simp[List.getD_eq_getElem?_getD,hij]
        rw[e1,e2]
        apply Bool.eq_iff_iff.2
        rw[eqN_iff,eqN_iff]
        exact eq_comm
      refine if_intro (fun hne=>?_) (fun hne=>?_)
      · conv=>whnf
        refine⟨(i+1,H2),⟨by dsimp only;omega,(hsi.trans hsj).trans (s1.trans s2),fun q hq=>?_⟩,by dsimp only;omega,?_⟩
        · dsimp only at hq
          rcases Nat.lt_succ_iff_lt_or_eq.1 hq with h | rfl
          · exact hpi q h
          · refine List.all_eq_false.2 ⟨j,List.mem_range.2 hij,?_⟩
            rw[ephi]
            rw[show (!eqN (MulF (OmegaF q) u[j]).1 (leastV v)[j])=true from hne]
            simp
        refine⟨rfl,rfl,?_⟩
        conv=>whnf
        repeat (refine⟨rfl,?_⟩;conv=>whnf)
        refine⟨by show En.v (.int .i64 (IntKind.i64.wrap (i+1)))=_;rw[wrap_id (by omega) (by omega)]<;>rfl,?_⟩
        conv=>whnf
        repeat (refine⟨rfl,?_⟩;conv=>whnf)
        exact trivial
      conv=>whnf
      refine⟨(j+1,H2),⟨by dsimp only;omega,hsj.trans (s1.trans s2),fun q hq=>by
          rcases Nat.lt_succ_iff_lt_or_eq.1 hq with h | rfl
          · exact hpj q h
          · rw[ephi,show (!eqN (MulF (OmegaF i) u[q]).1 (leastV v)[q])=false from hne]<;>rfl⟩,by dsimp only;omega,?_⟩
      refine⟨rfl,rfl,?_⟩
      conv=>whnf
      repeat (refine⟨rfl,?_⟩;conv=>whnf)
      refine⟨by show En.v (.int .i64 (IntKind.i64.wrap (j+1)))=_;rw[wrap_id (by omega) (by omega)]<;>rfl,?_⟩
      conv=>whnf
      repeat (refine⟨rfl,?_⟩;conv=>whnf)
      exact trivial
    have hij:j=u.length:=by
      have:=of_decide_eq_false hcj
      omega
    subst hij
    dsimp only
    conv=>whnf
    have hf:(List.range 8).find? (fun k=>(List.range u.length).all (phV v u k))=some i:=by
      rw[List.find?_range_eq_some]
      exact⟨List.all_eq_true.2 fun q hq=>hpj q (List.mem_range.1 hq),List.mem_range.2 hii,fun q hq=>by rw[hpi q hq]<;>rfl⟩
    rw[e0,hf]
  have hii:i=8:=by
    have:=of_decide_eq_false hci
    omega
  subst hii
  dsimp only
  conv=>whnf
  have hf:(List.range 8).find? (fun k=>(List.range u.length).all (phV v u k))=none:=by
    rw[List.find?_eq_none]
    intro q hq
    rw[hpi q (List.mem_range.1 hq)]
    simp
  rw[e0,hf]
end Go.Proofs.YtmhnalikebkhjaaGreatDoor

namespace Go.Proofs.YtmhnalikebkhjaaGreatDoor
open Go.Proofs.YtmhnalikebkhjaaGreatDoor.X Go.Proofs.YtmhnalikebkhjaaGreatDoor.X.PH
set_option maxRecDepth 100000
theorem tb_add : ∀ j,j < 6→∀ x,x < 2 ^ j→∀ i,i < 6→(x+2 ^ j).testBit i=(decide (i=j) || x.testBit i):=by decide +kernel
theorem cl_self : ∀ k,k < 64→∀ w,w < 6→(clB k w).testBit w=false:=by decide +kernel
theorem spl_b1 (wn : Nat→Nat) (hw:∀ j,wn j < 6):∀ j k,j≤6→k < 64→(∀ a b,a < b→b < j→wn a ≠ wn b)→∀ i,i < 6→(spl wn j k).1.testBit i=(decide (i < j) && k.testBit (wn i))
  | 0,k,_,_,_,i,_=>by simp[spl]
  | j+1,k,hj,hk,hd,i,hi=>by
    have ih:=spl_b1 wn hw j k (by omega) hk (fun a b h1 h2=>hd a b h1 (by omega)) i hi
    have hb:=spl_bit wn hw (hw j) j k hk fun a ha=>hd a j ha (by omega)
    have hlt:=(spl_lt wn hw j k hk).1
    rw[spl_succ wn hw j k hk fun a ha=>hd a j ha (by omega),hb]
    dsimp only
    by_cases hij:i=j
    · subst hij
      cases e:k.testBit (wn i) with
      | true=>
        rw[if_pos rfl,tb_add i (by omega) _ hlt i hi]
        simp
      | false=>
        rw[if_neg (by simp),Nat.add_zero,ih]
        simp
    · have e1:decide (i < j+1)=decide (i < j):=decide_eq_decide.2 (by omega)
      rw[e1,← ih]
      cases k.testBit (wn j) with
      | true=>
        rw[if_pos rfl,tb_add j (by omega) _ hlt i hi,decide_eq_false hij]
        simp
      | false=>rw[if_neg (by simp),Nat.add_zero]
theorem spl_b2 (wn : Nat→Nat) (hw:∀ j,wn j < 6):∀ j k,k < 64→(∀ a b,a < b→b < j→wn a ≠ wn b)→∀ p,p < 6→(spl wn j k).2.testBit p=(k.testBit p && (List.range j).all fun a=>!(wn a == p))
  | 0,k,_,_,p,_=>by simp[spl]
  | j+1,k,hk,hd,p,hp=>by
    have ih:=spl_b2 wn hw j k hk (fun a b h1 h2=>hd a b h1 (by omega)) p hp
    have hlt:=(spl_lt wn hw j k hk).2
    rw[spl_succ wn hw j k hk fun a ha=>hd a j ha (by omega)]
    dsimp only
    rw[List.range_succ,List.all_append]
    by_cases h:wn j=p
    · subst h
      rw[cl_self _ hlt _ hp]
      simp
    · rw[clB_bit _ hlt _ (hw j) p hp (fun e=>h e.symm),ih]
      have:(wn j == p)=false:=by simpa using h
      simp[this]
def cmbN (wn : Nat→Nat) (c:Nat):Nat→Nat→Nat
  | 0,r=>r
  | j+1,r=>cmbN wn c j r ||| (if c.testBit j then 2 ^ wn j else 0)
theorem cmb_b (wn : Nat→Nat) (c:Nat):∀ j r p,(cmbN wn c j r).testBit p=(r.testBit p || (List.range j).any fun a=>wn a == p && c.testBit a)
  | 0,r,p=>by simp[cmbN]
  | j+1,r,p=>by
    unfold cmbN
    rw[Nat.testBit_or,cmb_b wn c j r p,List.range_succ,List.any_append]
    cases h:c.testBit j with
    | true=>
      rw[if_pos rfl,Nat.testBit_two_pow]
      simp[h,Bool.or_assoc]
      rfl
    | false=>simp[h]
theorem cmb_lt (wn : Nat→Nat) (c:Nat) {n:Nat}:∀ j r,r < 2 ^ n→(∀ a,a < j→wn a < n)→cmbN wn c j r < 2 ^ n
  | 0,r,hr,_=>hr
  | j+1,r,hr,hw=>by
    unfold cmbN
    refine Nat.or_lt_two_pow (cmb_lt wn c j r hr fun a ha=>hw a (by omega)) ?_
    split
    · exact Nat.pow_lt_pow_right (by decide) (hw j (by omega))
    · exact Nat.pow_pos (by decide)
theorem bits_eq {x y n : Nat} (hx:x < 2 ^ n) (hy:y < 2 ^ n) (h:∀ p,p < n→x.testBit p=y.testBit p):x=y:=by
  apply Nat.eq_of_testBit_eq
  intro p
  by_cases hp:p < n
  · exact h p hp
  · have hl:2 ^ n≤2 ^ p:=Nat.pow_le_pow_right (by decide) (by omega)
    rw[Nat.testBit_lt_two_pow (by omega),Nat.testBit_lt_two_pow (by omega)]
theorem any_one {j i : Nat} (wn:Nat→Nat) (c:Nat) (hi:i < j) (hd:∀ a b,a < b→b < j→wn a ≠ wn b):((List.range j).any fun a=>wn a == wn i && c.testBit a)=c.testBit i:=by
  apply Bool.eq_iff_iff.2
  rw[List.any_eq_true]
  constructor
  · rintro ⟨a,ha,h⟩
    rw[Bool.and_eq_true] at h
    have ha:=List.mem_range.1 ha
    have e:wn a=wn i:=by simpa using h.1
    have:a=i:=by
      rcases Nat.lt_trichotomy a i with q | q | q
      · exact absurd e (hd a i q hi)
      · exact q
      · exact absurd e.symm (hd i a q ha)
    rw[← this]
    exact h.2
  · intro h
    exact⟨i,List.mem_range.2 hi,by simp[h]⟩
theorem cmb_spl (wn : Nat→Nat) (hw:∀ j,wn j < 6) {j:Nat} (hj:j≤6) (hd:∀ a b,a < b→b < j→wn a ≠ wn b) {b:Nat} (hb:b < 64):cmbN wn (spl wn j b).1 j (spl wn j b).2=b:=by
  refine bits_eq (n:=6) (cmb_lt wn _ j _ (spl_lt wn hw j b hb).2 fun a _=>hw a) hb fun p hp=>?_
  rw[cmb_b,spl_b2 wn hw j b hb hd p hp]
  by_cases h:∃ i,i < j∧wn i=p
  · obtain⟨i,hi,rfl⟩:=h
    rw[any_one wn _ hi hd,spl_b1 wn hw j b hj hb hd i (by omega),decide_eq_true hi]
    have:((List.range j).all fun a=>!(wn a == wn i))=false:=List.all_eq_false.2 ⟨i,List.mem_range.2 hi,by simp⟩
    rw[this]
    simp
  · have h1:((List.range j).all fun a=>!(wn a == p))=true:=List.all_eq_true.2 fun a ha=>by
      have:¬ wn a=p:=fun e=>h ⟨a,List.mem_range.1 ha,e⟩
      simpa using this
    have h2:((List.range j).any fun a=>wn a == p && (spl wn j b).1.testBit a)=false:=List.any_eq_false.2 fun a ha=>by
      have:¬ wn a=p:=fun e=>h ⟨a,List.mem_range.1 ha,e⟩
      simp[this]
    rw[h1,h2]
    simp
theorem spl_cmb (wn : Nat→Nat) (hw:∀ j,wn j < 6) {j:Nat} (hj:j≤6) (hd:∀ a b,a < b→b < j→wn a ≠ wn b) {r c:Nat} (hr:r < 64) (hc:c < 2 ^ j) (hz:∀ a,a < j→r.testBit (wn a)=false):spl wn j (cmbN wn c j r)=(c,r):=by
  have hlt:cmbN wn c j r < 64:=cmb_lt wn c (n:=6) j r hr fun a _=>hw a
  obtain⟨l1,l2⟩:=spl_lt wn hw j _ hlt
  have p6:2 ^ j≤2 ^ 6:=Nat.pow_le_pow_right (by decide) hj
  refine Prod.ext (bits_eq (n:=6) (by omega) (by omega) fun i hi=>?_) (bits_eq (n:=6) l2 hr fun p hp=>?_)
  · rw[spl_b1 wn hw j _ hj hlt hd i hi]
    by_cases hij:i < j
    · rw[decide_eq_true hij,cmb_b,hz i hij,any_one wn c hij hd]
      simp
    · rw[decide_eq_false hij]
      have hl:2 ^ j≤2 ^ i:=Nat.pow_le_pow_right (by decide) (by omega)
      rw[Nat.testBit_lt_two_pow (show c < 2 ^ i by omega)]
      rfl
  · rw[spl_b2 wn hw j _ hlt hd p hp,cmb_b]
    by_cases h:∃ i,i < j∧wn i=p
    · obtain⟨i,hi,rfl⟩:=h
      have:((List.range j).all fun a=>!(wn a == wn i))=false:=List.all_eq_false.2 ⟨i,List.mem_range.2 hi,by simp⟩
      rw[this,hz i hi]
      simp
    · have h1:((List.range j).all fun a=>!(wn a == p))=true:=List.all_eq_true.2 fun a ha=>by
        have:¬ wn a=p:=fun e=>h ⟨a,List.mem_range.1 ha,e⟩
        simpa using this
      have h2:((List.range j).any fun a=>wn a == p && c.testBit a)=false:=List.any_eq_false.2 fun a ha=>by
        have:¬ wn a=p:=fun e=>h ⟨a,List.mem_range.1 ha,e⟩
        simp[this]
      rw[h1,h2]
      simp
theorem spl_clear (wn : Nat→Nat) (hw:∀ j,wn j < 6) {j:Nat} (hd:∀ a b,a < b→b < j→wn a ≠ wn b) {b:Nat} (hb:b < 64):∀ a,a < j→(spl wn j b).2.testBit (wn a)=false:=fun a ha=>by
  rw[spl_b2 wn hw j b hb hd _ (hw a)]
  have:((List.range j).all fun q=>!(wn q == wn a))=false:=List.all_eq_false.2 ⟨a,List.mem_range.2 ha,by simp⟩
  rw[this]
  simp
theorem spl_le (wn : Nat→Nat) (hw:∀ j,wn j < 6) {j:Nat} (hd:∀ a b,a < b→b < j→wn a ≠ wn b) {b n:Nat} (hn:n≤6) (hb:b < 2 ^ n):(spl wn j b).2 < 2 ^ n:=by
  have h6:2 ^ n≤2 ^ 6:=Nat.pow_le_pow_right (by decide) hn
  have hl:=(spl_lt wn hw j b (by omega)).2
  apply Nat.lt_of_not_le
  intro hge
  obtain⟨p,hp1,hp2⟩:=Nat.exists_ge_and_testBit_of_ge_two_pow hge
  by_cases hp:p < 6
  · rw[spl_b2 wn hw j b (by omega) hd p hp] at hp2
    have hlp:2 ^ n≤2 ^ p:=Nat.pow_le_pow_right (by decide) hp1
    rw[Nat.testBit_lt_two_pow (show b < 2 ^ p by omega)] at hp2
    simp at hp2
  · have hlp:2 ^ 6≤2 ^ p:=Nat.pow_le_pow_right (by decide) (by omega)
    rw[Nat.testBit_lt_two_pow (show _ < 2 ^ p by omega)] at hp2
    cases hp2
theorem filter_none {p : Nat→Bool}:∀ N,(∀ y,y < N→p y=false)→(List.range N).filter p=[]
  | 0,_=>rfl
  | N+1,h=>by
    rw[List.range_succ,List.filter_append,filter_none N fun y hy=>h y (by omega)]
    simp[h N (by omega)]
theorem filter_one {p : Nat→Bool} {x:Nat}:∀ N,x < N→p x=true→(∀ y,y < N→p y=true→y=x)→(List.range N).filter p=[x]
  | 0,h,_,_=>absurd h (by omega)
  | N+1,h,hx,hu=>by
    rw[List.range_succ,List.filter_append]
    by_cases e:x=N
    · subst e
      rw[filter_none x fun y hy=>by
        cases q:p y with
        | false=>rfl
        | true=>have:=hu y (by omega) q;omega]
      simp[hx]
    · rw[filter_one N (by omega) hx fun y hy=>hu y (by omega)]
      have:p N=false:=by
        cases q:p N with
        | false=>rfl
        | true=>have:=hu N (by omega) q;omega
      simp[this]
theorem filter_two {p : Nat→Bool} {x z:Nat} (hxz:x < z):∀ N,z < N→p x=true→p z=true→(∀ y,y < N→p y=true→y=x∨y=z)→(List.range N).filter p=[x,z]
  | 0,h,_,_,_=>absurd h (by omega)
  | N+1,h,hx,hz,hu=>by
    rw[List.range_succ,List.filter_append]
    by_cases e:z=N
    · subst e
      rw[filter_one z hxz hx fun y hy q=>by
        rcases hu y (by omega) q with h | h<;>omega]
      simp[hz]
    · rw[filter_two hxz N (by omega) hx hz fun y hy=>hu y (by omega)]
      have:p N=false:=by
        cases q:p N with
        | false=>rfl
        | true=>rcases hu N (by omega) q with h | h<;>omega
      simp[this]
end Go.Proofs.YtmhnalikebkhjaaGreatDoor

namespace Go.Proofs.YtmhnalikebkhjaaGreatDoor
open Go.Proofs.YtmhnalikebkhjaaGreatDoor.X Go.Proofs.YtmhnalikebkhjaaGreatDoor.X.PH
set_option maxRecDepth 100000
abbrev Pr : Type:=(P4 × Int) × (P4 × Int)
def stepP (s : ((P4 × Int) × Int) × Bool) (p:Pr):((P4 × Int) × Int) × Bool:=if s.1.2=0 then (dotStepR s.1.1 p.1 s.2 p.2,false) else s
def foldP (L : List Pr):((P4 × Int) × Int) × Bool:=L.foldl stepP (((P4.zero,0),0),true)
def dotP (L : List Pr):(P4 × Int) × Int:=(foldP L).1
theorem foldP_snoc (L : List Pr) (p:Pr):foldP (L++[p])=stepP (foldP L) p:=by
  unfold foldP
  rw[List.foldl_append]
  rfl
theorem foldP_flag (L : List Pr):(foldP L).2=L.isEmpty:=by
  have key:∀ (L:List Pr) (s:((P4 × Int) × Int) × Bool),s.2=false→(L.foldl stepP s).2=false:=by
    intro L
    induction L with
    | nil=>intro s h;exact h
    | cons p L ih=>
      intro s h
      refine ih _ ?_
      unfold stepP
      split
      · rfl
      · exact h
  cases L with
  | nil=>rfl
  | cons p L=>exact key L _ rfl
theorem dotP_snoc (L : List Pr) (p:Pr):dotP (L++[p])=if (dotP L).2=0 then dotStepR (dotP L).1 p.1 L.isEmpty p.2 else dotP L:=by
  unfold dotP
  rw[foldP_snoc]
  unfold stepP
  rw[foldP_flag]
  split<;>rfl
theorem dot_dotP (xs ys : Vec) (h:xs.length=ys.length):∀ i,i≤xs.length→dotR (atL xs) (atL ys) i=dotP ((xs.zip ys).take i)
  | 0,_=>rfl
  | i+1,hi=>by
    have ih:=dot_dotP xs ys h i (by omega)
    have hz:i < (xs.zip ys).length:=by rw[List.length_zip];omega
    rw[List.take_succ_eq_append_getElem hz,dotP_snoc,← ih]
    have e:((xs.zip ys).take i).isEmpty=decide (i=0):=by
      cases i with
      | zero=>rfl
      | succ i=>
        rw[decide_eq_false (by omega)]
        cases q:(xs.zip ys).take (i+1) with
        | nil=>
          have:=congrArg List.length q
          simp only[List.length_take,List.length_zip,List.length_nil] at this
          omega
        | cons _ _=>rfl
    rw[e,List.getElem_zip,← atL_get (l:=xs) (by omega),← atL_get (l:=ys) (by omega)]
    rfl
def nzB (m : Mx) (i c:Nat):Bool:=!eqN (entry m i c) (P4.zero,0)
def colsL (m : Mx) (i n:Nat):List Nat:=(List.range n).filter (nzB m i)
def vAt (v : Vec) (b:Nat):P4 × Int:=v.getD b (P4.zero,0)
def rowL (m : Mx) (wn:Nat→Nat) (j:Nat) (v:Vec) (a n:Nat):List Pr:=(colsL m (spl wn j a).1 n).map fun c=>(entry m (spl wn j a).1 c,vAt v (cmbN wn c j (spl wn j a).2))
def refB (m : Mx) (wn:Nat→Nat) (j:Nat) (a b:Nat):Bool:=((spl wn j a).2 == (spl wn j b).2) && nzB m (spl wn j a).1 (spl wn j b).1
def refL (m : Mx) (wn:Nat→Nat) (j:Nat) (v:Vec) (a n:Nat):List Pr:=((List.range n).filter (refB m wn j a)).map fun b=>(entry m (spl wn j a).1 (spl wn j b).1,vAt v b)
def arN (k : Nat):Nat:=(arityF k).toNat
def supOk (k : Nat):Bool:=(List.range (2 ^ arN k)).all fun i=>match colsL (opM k) i (2 ^ arN k) with
  | [_]=>true
  | [0,1]=>Nat.beq (arN k) 1
  | _=>false
theorem sup_all : ∀ k,k < 13→1≤k→supOk k=true:=by decide +kernel
theorem sup_get {k : Nat} (h1:1≤k) (h2:k≤12) {i:Nat} (hi:i < 2 ^ arN k):(∃ c,colsL (opM k) i (2 ^ arN k)=[c])∨(arN k=1∧colsL (opM k) i (2 ^ arN k)=[0,1]):=by
  have h:=List.all_eq_true.1 (sup_all k (by omega) h1) i (List.mem_range.2 hi)
  split at h
  · rename_i c e
    exact .inl ⟨c,e⟩
  · rename_i e
    exact .inr ⟨Nat.eq_of_beq_eq_true h,e⟩
  · cases h
theorem rows_same {k : Nat} (h1:1≤k) (h2:k≤12) (wn:Nat→Nat) (hw:∀ j,wn j < 6) (hd:∀ a b,a < b→b < arN k→wn a ≠ wn b) {n:Nat} (hn:n≤6) (hwn:∀ a,a < arN k→wn a < n) (hj:arN k≤6) (v:Vec) {a:Nat} (ha:a < 2 ^ n) :
    refL (opM k) wn (arN k) v a (2 ^ n)=rowL (opM k) wn (arN k) v a (2 ^ arN k):=by
  have h6:2 ^ n≤2 ^ 6:=Nat.pow_le_pow_right (by decide) hn
  obtain⟨hi,hr⟩:=spl_lt wn hw (arN k) a (by omega)
  have hrn:=spl_le wn hw hd hn ha
  have hz:=spl_clear wn hw hd (show a < 64 by omega)
  have hc:=fun {c:Nat} (h:c < 2 ^ arN k)=>spl_cmb wn hw hj hd hr h hz
  have hcn:=fun (c:Nat)=>cmb_lt wn c (arN k) _ hrn hwn
  have hu:∀ y,y < 2 ^ n→refB (opM k) wn (arN k) a y=true→(spl wn (arN k) y).1∈colsL (opM k) (spl wn (arN k) a).1 (2 ^ arN k)∧y=cmbN wn (spl wn (arN k) y).1 (arN k) (spl wn (arN k) a).2:=by
    intro y hy hb
    unfold refB at hb
    rw[Bool.and_eq_true] at hb
    have e:(spl wn (arN k) a).2=(spl wn (arN k) y).2:=by simpa using hb.1
    refine⟨List.mem_filter.2 ⟨List.mem_range.2 (spl_lt wn hw (arN k) y (by omega)).1,hb.2⟩,?_⟩
    rw[e]
    exact (cmb_spl wn hw hj hd (by omega)).symm
  have hp:∀ c,c∈colsL (opM k) (spl wn (arN k) a).1 (2 ^ arN k)→refB (opM k) wn (arN k) a (cmbN wn c (arN k) (spl wn (arN k) a).2)=true∧spl wn (arN k) (cmbN wn c (arN k) (spl wn (arN k) a).2)=(c,(spl wn (arN k) a).2):=by
    intro c hm
    obtain⟨m1,m2⟩:=List.mem_filter.1 hm
    have e:=hc (List.mem_range.1 m1)
    refine⟨?_,e⟩
    unfold refB
    rw[e]
    simpa using m2
  unfold refL rowL
  rcases sup_get h1 h2 hi with⟨c,e⟩ | ⟨e1,e⟩
  · obtain⟨p1,p2⟩:=hp c (by rw[e];simp)
    rw[filter_one (x:=cmbN wn c (arN k) (spl wn (arN k) a).2) (2 ^ n) (hcn c) p1 fun y hy hb=>?_,e]
    · simp only[List.map_cons,List.map_nil]
      rw[p2]
    · obtain⟨q1,q2⟩:=hu y hy hb
      rw[e] at q1
      simp at q1
      rw[q1] at q2
      exact q2
  · obtain⟨p1,p2⟩:=hp 0 (by rw[e];simp)
    obtain⟨r1,r2⟩:=hp 1 (by rw[e];simp)
    have hlt:cmbN wn 0 (arN k) (spl wn (arN k) a).2 < cmbN wn 1 (arN k) (spl wn (arN k) a).2:=by
      rcases Nat.lt_or_eq_of_le (show cmbN wn 0 (arN k) (spl wn (arN k) a).2≤cmbN wn 1 (arN k) (spl wn (arN k) a).2 by
        rw[e1]
        show (spl wn 1 a).2 ||| (if Nat.testBit 0 0=true then 2 ^ wn 0 else 0)≤(spl wn 1 a).2 ||| (if Nat.testBit 1 0=true then 2 ^ wn 0 else 0)
        rw[if_neg (by decide),Nat.or_zero]
        exact Nat.left_le_or) with h | h
      · exact h
      · rw[h,r2] at p2
        cases p2
    rw[filter_two hlt (2 ^ n) (hcn 1) p1 r1 fun y hy hb=>?_,e]
    · simp only[List.map_cons,List.map_nil]
      rw[p2,r2]
    · obtain⟨q1,q2⟩:=hu y hy hb
      rw[e] at q1
      simp at q1
      rcases q1 with q1 | q1
      · rw[q1] at q2;exact .inl q2
      · rw[q1] at q2;exact .inr q2
def gwn (g : Gt):Nat→Nat:=fun j=>(g.ws.getD j 0).toNat
def gM (g : Gt):Mx:=opM g.kind.toNat
def rowG (v : Vec) (g:Gt) (a:Nat):(P4 × Int) × Int:=dotP (rowL (gM g) (gwn g) g.ws.length v a (2 ^ g.ws.length))
def rowsE (f : Nat→(P4 × Int) × Int) (n:Nat):Vec × Int:=
  if firstErr ((List.range n).map fun a=>(f a).2) ≠ 0 then ([],firstErr ((List.range n).map fun a=>(f a).2)) else ((List.range n).map fun a=>(f a).1,0)
def doneG (v : Vec) (g:Gt):Vec × Int:=rowsE (rowG v g) v.length
def gErr (g : Gt) (n:Int):Int:=if g.kind < 1∨g.kind > 12 then 3 else if (g.ws.length:Int) ≠ arityF g.kind then 2 else placesR g.ws n
structure GateOK (g : Gt) (n:Nat):Prop where
  n6:n≤6
  k1:1≤g.kind
  k2:g.kind≤12
  len:(g.ws.length:Int)=arityF g.kind
  inA:g.ws.all (inW n)=true
  tw:twiceF g.ws=false
theorem gErr_ok {g : Gt} {n:Nat} (hn:n≤6) (h:gErr g n=0):GateOK g n:=by
  unfold gErr at h
  by_cases h1:g.kind < 1∨g.kind > 12
  · rw[if_pos h1] at h;cases h
  rw[if_neg h1] at h
  by_cases h2:(g.ws.length:Int) ≠ arityF g.kind
  · rw[if_pos h2] at h;cases h
  rw[if_neg h2] at h
  unfold placesR at h
  by_cases h3:g.ws.all (inW n)=false
  · rw[if_pos h3] at h;cases h
  rw[if_neg h3] at h
  by_cases h4:twiceF g.ws=true
  · rw[if_pos h4] at h;cases h
  exact⟨hn,by omega,by omega,by simpa using h2,by simpa using h3,by simpa using h4⟩
theorem GateOK.ar {g : Gt} {n:Nat} (h:GateOK g n):arN g.kind.toNat=g.ws.length∧g.ws.length≤3:=by
  have:=arityF_range g.kind
  have h1:=h.len
  have h2:=h.k1
  unfold arN
  rw[show ((g.kind.toNat:Nat):Int)=g.kind by omega]
  omega
theorem GateOK.wn {g : Gt} {n:Nat} (h:GateOK g n):(∀ j,gwn g j < 6)∧(∀ j,j < g.ws.length→gwn g j < n∧g.ws.getD j 0=(gwn g j:Int))∧∀ a b,a < b→b < g.ws.length→gwn g a ≠ gwn g b:=by
  have hn:=h.n6
  have hin:∀ j,j < g.ws.length→0≤g.ws.getD j 0∧g.ws.getD j 0 < n:=fun j hj=>by
    have:=List.all_eq_true.1 h.inA g.ws[j] (List.getElem_mem hj)
    unfold inW at this
    rw[List.getD_eq_getElem?_getD,List.getElem?_eq_getElem hj]
    simpa using this
  have h2:∀ j,j < g.ws.length→gwn g j < n∧g.ws.getD j 0=(gwn g j:Int):=fun j hj=>by
    have:=hin j hj
    unfold gwn
    omega
  refine⟨fun j=>?_,h2,fun a b hab hb e=>?_⟩
  · by_cases hj:j < g.ws.length
    · have:=(h2 j hj).1
      omega
    · unfold gwn
      rw[List.getD_eq_getElem?_getD,List.getElem?_eq_none (by omega)]
      decide
  · have h3:=h.tw
    have e1:g.ws[a]'(by omega)=g.ws[b]:=by
      have ea:=(h2 a (by omega)).2
      have eb:=(h2 b hb).2
      rw[List.getD_eq_getElem?_getD,List.getElem?_eq_getElem (show a < g.ws.length by omega)] at ea
      rw[List.getD_eq_getElem?_getD,List.getElem?_eq_getElem hb] at eb
      simp only[Option.getD_some] at ea eb
      rw[ea,eb,e]
    have:twiceF g.ws=true:=by
      refine twice_true hb ?_
      rw[List.contains_iff_mem,← e1]
      exact List.mem_take_iff_getElem.2 ⟨a,by omega,rfl⟩
    rw[h3] at this
    cases this
theorem GateOK.split {g : Gt} {n:Nat} (h:GateOK g n) {k:Nat} (hk:k < 64):takenF g.ws k g.ws.length=(((spl (gwn g) g.ws.length k).1:Int),((spl (gwn g) g.ws.length k).2:Int)):=by
  obtain⟨w1,w2,w3⟩:=h.wn
  have:=h.ar
  exact taken_spl g.ws (gwn g) w1 k hk g.ws.length (by omega) (fun i hi=>(w2 i hi).2) w3
theorem GateOK.row {g : Gt} {n:Nat} (h:GateOK g n) (v:Vec) (hv:v.length=2 ^ n) {a:Nat} (ha:a < v.length):dotP (refL (gM g) (gwn g) g.ws.length v a v.length)=rowG v g a:=by
  obtain⟨w1,w2,w3⟩:=h.wn
  obtain⟨a1,a2⟩:=h.ar
  have k1:=h.k1
  have k2:=h.k2
  unfold rowG gM
  rw[hv,← a1]
  rw[← a1] at w2 w3
  rw[rows_same (by omega) (by omega) (gwn g) w1 w3 h.n6 (fun a ha=>(w2 a ha).1) (by omega) v (by omega)]
end Go.Proofs.YtmhnalikebkhjaaGreatDoor

namespace Go.Proofs.YtmhnalikebkhjaaGreatDoor
open Go.Proofs.YtmhnalikebkhjaaGreatDoor.X Go.Proofs.YtmhnalikebkhjaaGreatDoor.X.PH
set_option maxRecDepth 100000
theorem MatH.cell {H : PH} {base:Option Addr} {n cap:Nat} {m:Mx} (h:MatH H (.slice base n cap) m) {i k:Nat} (hi:i < m.length) (hk:k < m[i].length) :
    ∃ b off b' off' cap',base=some ⟨b,off,none⟩∧(∀ H' O,Sub H H'→Rd H' O ⟨b,off+i*1,none⟩ 1 [.slice (some ⟨b',off',none⟩) m[i].length cap'])∧∀ H' O,Sub H H'→Rd H' O ⟨b',off'+k*5,none⟩ 5 (cellsOf m[i][k]):=by
  obtain⟨b,off,base',cap',h1,h2,h3⟩:=MatH.at h hi
  obtain⟨b',off',h4,h5⟩:=NumH.at h3 hk
  subst h4
  exact⟨b,off,b',off',cap',h1,h2,h5⟩
theorem opM_dims : ∀ k,k < 13→1≤k→(opM k).length=2 ^ arN k∧(opM k).all (fun r=>r.length == 2 ^ arN k)=true:=by decide +kernel
theorem GateOK.dim {g : Gt} {n:Nat} (h:GateOK g n):(gM g).length=2 ^ g.ws.length∧∀ i (hi:i < (gM g).length),(gM g)[i].length=2 ^ g.ws.length:=by
  have k1:=h.k1
  have k2:=h.k2
  obtain⟨d1,d2⟩:=opM_dims g.kind.toNat (by omega) (by omega)
  rw[h.ar.1] at d1 d2
  exact⟨d1,fun i hi=>by simpa using List.all_eq_true.1 d2 _ (List.getElem_mem hi)⟩
theorem GateOK.of {g : Gt} {n:Nat} (h:GateOK g n):OfR g.kind=(gM g,0):=if_pos ⟨h.k1,h.k2⟩
theorem OwnA.up {O O' : PH} {sz:Nat} {t:TypeId} {v:Value} {xs:List (List Value)} {ob:Option Nat} (h:OwnA O sz t v xs ob) (hs:Sub O O'):OwnA O' sz t v xs ob:=h.keep (oc:=none) (fun n o hn _=>hs n o hn) (Ap.none_l _)
def VecA (O : PH) (v:Value) (l:Vec) (ob:Option Nat):Prop:=OwnA O 5 32 v (l.map cellsOf) ob
theorem VecA.num {O : PH} {v:Value} {l:Vec} {ob:Option Nat} (h:VecA O v l ob):NumO O v l:=OwnA.own h
theorem VecA.sl {O : PH} {v:Value} {l:Vec} {ob:Option Nat} (h:VecA O v l ob):∃ base cap,v=.slice base l.length cap:=by
  obtain⟨b,c,e⟩:=OwnA.sl h
  rw[List.length_map] at e
  exact⟨b,c,e⟩
theorem d71 (g : Gt) (n:Int) (hl:g.ws.length < 1000000) (H:PH) (w:Value) (hw:IntsC H w g.ws):Cl Tryz.prog 71 [gv g w,.int .i64 n] H emp fun r _ _=>r=.int .i64 (gErr g n):=by
  obtain⟨wb,wc,rfl,hwc,hw⟩:=hw
  refine Cl_of (pol:=polL) Γok Tryz.func71 (by kernel_rfl) rfl ?_
  conv=>whnf
  intro b1
  conv=>whnf
  refine if_intro (fun h1=>?_) (fun h1=>?_)
  · conv=>whnf
    rw[show gErr g n=3 from if_pos (.inl (of_decide_eq_true h1))]
  conv=>whnf
  refine if_intro (fun h2=>?_) (fun h2=>?_)
  · conv=>whnf
    rw[show gErr g n=3 from if_pos (.inr (of_decide_eq_true h2))]
  have h12:¬ (g.kind < 1∨g.kind > 12):=fun h=>h.elim (of_decide_eq_false h1) (of_decide_eq_false h2)
  conv=>whnf
  refine W_draw (pol:=polL) Γok mixes [(0,.pend),(1,.pend),(2,.pend),(3,.pendO),(4,.pendO),(5,.lock),(6,.pendO)] 24 (by kernel_rfl) rfl ?_
  conv=>whnf
  refine (d112 g.kind _).val fun Ha sa=>?_
  conv=>whnf
  refine if_intro (fun h3=>?_) (fun h3=>?_)
  · conv=>whnf
    rw[show gErr g n=2 by unfold gErr;rw[if_neg h12,if_pos (by simpa using h3)]]
  conv=>whnf
  refine (c70 g.ws n hl _ _ (IntsH.up hw sa)).val fun Hb sb=>?_
  conv=>whnf
  rw[show gErr g n=placesR g.ws n by unfold gErr;rw[if_neg h12,if_neg (by simpa using h3)]]
def refP (v : Vec) (g:Gt) (a n:Nat):List Pr:=refL (gM g) (gwn g) g.ws.length v a n
theorem refP_succ (v : Vec) (g:Gt) (a n:Nat):refP v g a (n+1)=refP v g a n++if refB (gM g) (gwn g) g.ws.length a n=true then [(entry (gM g) (spl (gwn g) g.ws.length a).1 (spl (gwn g) g.ws.length n).1,vAt v n)] else []:=by
  unfold refP refL
  rw[List.range_succ,List.filter_append,List.map_append]
  congr 1
  by_cases h:refB (gM g) (gwn g) g.ws.length a n=true
  · simp[h]
  · simp[h]
theorem refP_le (v : Vec) (g:Gt) (a n:Nat):(refP v g a n).length≤n:=by
  unfold refP refL
  rw[List.length_map]
  exact Nat.le_trans (List.length_filter_le _ _) (by simp)
def outP (v : Vec) (g:Gt) (n:Nat):Vec:=(List.range n).map fun a=>(rowG v g a).1
theorem outP_succ (v : Vec) (g:Gt) (n:Nat):outP v g (n+1)=outP v g n++[(rowG v g n).1]:=by
  unfold outP
  rw[List.range_succ,List.map_append]
  rfl
theorem doneG_bad {v : Vec} {g:Gt} {i:Nat} (hi:i < v.length) (h:∀ a,a < i→(rowG v g a).2=0) (hb:(rowG v g i).2 ≠ 0):doneG v g=([],(rowG v g i).2):=by
  have e:firstErr ((List.range v.length).map fun a=>(rowG v g a).2)=(rowG v g i).2:=by
    obtain⟨k,hk⟩:∃ k,v.length=i+(k+1):=⟨v.length - i - 1,by omega⟩
    rw[hk,List.range_add,List.map_append,firstErr_append,firstErr_all fun e he=>?_,if_pos rfl]
    · rw[List.range_succ_eq_map]
      simp only[List.map_cons,firstErr,Nat.add_zero]
      rw[if_neg hb]
    · obtain⟨a,ha,rfl⟩:=List.mem_map.1 he
      exact h a (List.mem_range.1 ha)
  unfold doneG rowsE
  rw[e,if_pos hb]
theorem doneG_good {v : Vec} {g:Gt} (h:∀ a,a < v.length→(rowG v g a).2=0):doneG v g=(outP v g v.length,0):=by
  unfold doneG rowsE outP
  rw[firstErr_all fun e he=>by
    obtain⟨a,ha,rfl⟩:=List.mem_map.1 he
    exact h a (List.mem_range.1 ha),if_neg (by simp)]
theorem zip_fst : ∀ (L:List Pr),(L.map Prod.fst).zip (L.map Prod.snd)=L
  | []=>rfl
  | p::L=>by
    rw[List.map_cons,List.map_cons,List.zip_cons_cons,zip_fst L]
def polDone : Tmp→Pol:=fun | 73=>.imm | 80=>.imm | 93=>.imm | _=>.loc
set_option maxHeartbeats 4000000 in
theorem d73o (v : Vec) (g:Gt) (n:Nat) (hok:GateOK g n) (hv:v.length=2 ^ n) (H:PH) (x w:Value) (hx:NumH H x v) (hw:IntsC H w g.ws):Cl Tryz.prog 73 [x,gv g w] H emp fun r _ M'=>OutVO M' r (doneG v g):=by
  obtain⟨xb,xc,rfl,_⟩:=id hx
  obtain⟨wb,wc,rfl,hwc,hw⟩:=hw
  obtain⟨w1,w2,w3⟩:=hok.wn
  obtain⟨a1,a2⟩:=hok.ar
  obtain⟨dm1,dm2⟩:=hok.dim
  obtain⟨p1,p2⟩:=pow6 hok.n6
  have hwpos:∀ q∈g.ws,0≤q:=fun q hq=>by
    have:=List.all_eq_true.1 hok.inA q hq
    unfold inW at this
    simp at this
    exact this.1
  have ent:=(c106 [] [] (by decide) (by simp) emp _ _ (nilV emp) (nilV emp)).ent
  refine Cl_of (pol:=polDone) Γok Tryz.func73 (by kernel_rfl) rfl ?_
  conv=>whnf
  intro b3
  conv=>whnf
  refine (c18 g.kind _).use fun r Ha sa hr=>?_
  rw[hok.of] at hr
  obtain⟨_,mv,rfl,hm⟩:=hr
  obtain⟨mb,mc,rfl⟩:=hm.sl
  replace hx:=NumH.up hx sa
  replace hw:=IntsH.up hw sa
  conv=>whnf
  refine W_loop (pol:=polDone) Γok (Nat × PH × Value × PH × Option Nat) (fun i=>i.1≤v.length∧Sub Ha i.2.1∧VecA i.2.2.2.1 i.2.2.1 (outP v g i.1) i.2.2.2.2∧∀ a,a < i.1→(rowG v g a).2=0) (fun i=>v.length - i.1) (fun i=>[(8,.v i.2.2.1),(9,.v (.int .i64 i.1))]) (fun _=>[]) (fun i=>i.2.1) (fun i=>i.2.2.2.1) ⟨(0,Ha,.slice none 0 0,emp,none),⟨by simp,Sub.refl _,OwnA.nil _ _ _,fun a h=>absurd h (Nat.not_lt_zero _)⟩,rfl,rfl,?_⟩ ?_
  · conv=>whnf
    repeat (refine⟨rfl,?_⟩;conv=>whnf)
    exact trivial
  rintro ⟨i,Hi,ov,Oi,ob⟩ ⟨h1i,hsi,hov,hpi⟩
  dsimp only at h1i hsi hov hpi
  obtain⟨ovb,ovc,rfl⟩:=hov.sl
  conv=>whnf
  refine if_intro (fun hci=>?_) (fun hci=>?_)
  · have hii:i < v.length:=by
      have:=of_decide_eq_true hci
      omega
    conv=>whnf
    have hc:=c71 g.ws (by omega) hwpos i _ _ (IntsH.up hw hsi)
    rw[hok.split (k:=i) (by omega)] at hc
    refine hc.val fun Hb sb=>?_
    clear hc
    obtain⟨q1,q2⟩:=spl_lt (gwn g) w1 g.ws.length i (by omega)
    conv=>whnf
    refine W_loop (pol:=polDone) Γok (Nat × PH × Value × Value × PH × Option Nat × Option Nat) (fun z=>z.1≤v.length∧Sub Hb z.2.1∧VecA z.2.2.2.2.1 z.2.2.1 ((refP v g i z.1).map Prod.fst) z.2.2.2.2.2.1∧VecA z.2.2.2.2.1 z.2.2.2.1 ((refP v g i z.1).map Prod.snd) z.2.2.2.2.2.2∧VecA z.2.2.2.2.1 (.slice ovb (outP v g i).length ovc) (outP v g i) ob∧Ap z.2.2.2.2.2.1 z.2.2.2.2.2.2∧Ap z.2.2.2.2.2.1 ob∧Ap z.2.2.2.2.2.2 ob) (fun z=>v.length - z.1) (fun z=>[(12,.v z.2.2.1),(13,.v z.2.2.2.1),(14,.v (.int .i64 z.1))]) (fun _=>[]) (fun z=>z.2.1) (fun z=>z.2.2.2.2.1) ⟨(0,Hb,.slice none 0 0,.slice none 0 0,Oi,none,none),⟨by simp,Sub.refl _,OwnA.nil _ _ _,OwnA.nil _ _ _,hov,Ap.none_l _,Ap.none_l _,Ap.none_l _⟩,rfl,rfl,?_⟩ ?_
    · conv=>whnf
      repeat (refine⟨rfl,?_⟩;conv=>whnf)
      exact trivial
    rintro ⟨j,Hj,xv,yv,Oj,xo,yo⟩ ⟨h1j,hsj,hxv,hyv,hovj,axy,axo,ayo⟩
    dsimp only at h1j hsj hxv hyv hovj axy axo ayo
    obtain⟨xvb,xvc,rfl⟩:=hxv.sl
    obtain⟨yvb,yvc,rfl⟩:=hyv.sl
    have hsaj:=hsi.trans (sb.trans hsj)
    conv=>whnf
    refine if_intro (fun hcj=>?_) (fun hcj=>?_)
    · have hij:j < v.length:=by
        have:=of_decide_eq_true hcj
        omega
      conv=>whnf
      have hc:=c71 g.ws (by omega) hwpos j _ _ (IntsH.up hw hsaj)
      rw[hok.split (k:=j) (by omega)] at hc
      refine hc.val fun Hc sc=>?_
      clear hc
      obtain⟨r1,r2⟩:=spl_lt (gwn g) w1 g.ws.length j (by omega)
      conv=>whnf
      have hrow:(spl (gwn g) g.ws.length i).1 < (gM g).length:=by rw[dm1];exact q1
      have hcol:(spl (gwn g) g.ws.length j).1 < ((gM g)[(spl (gwn g) g.ws.length i).1]).length:=by rw[dm2 _ hrow];exact r1
      obtain⟨b,off,b',off',cap',rfl,hr1,hr2⟩:=hm.cell hrow hcol
      have eent:entry (gM g) (spl (gwn g) g.ws.length i).1 (spl (gwn g) g.ws.length j).1=((gM g)[(spl (gwn g) g.ws.length i).1])[(spl (gwn g) g.ws.length j).1]:=entry_get hrow hcol
      have hsac:=hsaj.trans sc
      have enz:nzB (gM g) (spl (gwn g) g.ws.length i).1 (spl (gwn g) g.ws.length j).1=!eqN (((gM g)[(spl (gwn g) g.ws.length i).1])[(spl (gwn g) g.ws.length j).1]) (P4.zero,0):=by unfold nzB;rw[eent]
      have skip:refB (gM g) (gwn g) g.ws.length i j=false→refP v g i (j+1)=refP v g i j:=fun h=>by rw[refP_succ,h];simp
      refine if_intro (fun hl=>?_) (fun hl=>?_)
      · conv=>whnf
        refine dec_intro (Int.ofNat_lt.2 hrow) ?_
        conv=>whnf
        refine⟨_,hr1 Hc Oj hsac,?_⟩
        conv=>whnf
        refine dec_intro (Int.ofNat_lt.2 hcol) ?_
        conv=>whnf
        refine⟨_,hr2 Hc Oj hsac,?_⟩
        conv=>whnf
        refine if_intro (fun hz=>?_) (fun hz=>?_)
        · have hB:refB (gM g) (gwn g) g.ws.length i j=true:=by
            unfold refB
            rw[Bool.and_eq_true]
            refine⟨?_,by rw[enz];exact hz⟩
            have:((spl (gwn g) g.ws.length i).2:Int)=(spl (gwn g) g.ws.length j).2:=by simpa using hl
            exact beq_iff_eq.2 (by omega)
          conv=>whnf
          refine dec_intro (Int.ofNat_lt.2 hrow) ?_
          conv=>whnf
          refine⟨_,hr1 Hc Oj hsac,?_⟩
          conv=>whnf
          refine dec_intro (Int.ofNat_lt.2 hcol) ?_
          conv=>whnf
          refine⟨_,hr2 Hc Oj hsac,?_⟩
          conv=>whnf
          intro b5 hb5 hO5
          conv=>whnf
          have s5:=sub_ins Hc (.cells ⟨cellsOf (((gM g)[(spl (gwn g) g.ws.length i).1])[(spl (gwn g) g.ws.length j).1])⟩ 32 (0,0)) hb5
          refine append_ap (xs:=((refP v g i j).map Prod.fst).map cellsOf) (y:=cellsOf (((gM g)[(spl (gwn g) g.ws.length i).1])[(spl (gwn g) g.ws.length j).1])) hxv rfl rfl (cellsOf_one _) ⟨_,_,_,rfl,rfl,Rd.whole (ins_same _ _ _)⟩ ?_ fun xv2 O4 bx hx4 hxf hk4=>?_
          · rw[List.length_map,List.length_map]
            have:=refP_le v g i j
            omega
          have ax2:=Ap.fresh hyv axy hxf
          have ao2:=Ap.fresh hovj axo hxf
          have hyv4:VecA O4 _ _ yo:=OwnA.keep hyv hk4 axy
          have hov4:VecA O4 _ _ ob:=OwnA.keep hovj hk4 axo
          obtain⟨_,b7,off7,rfl,hrd7⟩:=(NumH.up hx (hsac.trans s5)).rd (O:=O4) hij
          conv=>whnf
          refine dec_intro (by omega) ?_
          conv=>whnf
          refine⟨_,hrd7,?_⟩
          conv=>whnf
          intro b6 hb6 hO6
          conv=>whnf
          have s6:=sub_ins _ (.cells ⟨cellsOf v[j]⟩ 32 (0,0)) hb6
          refine append_ap (xs:=((refP v g i j).map Prod.snd).map cellsOf) (y:=cellsOf v[j]) hyv4 rfl rfl (cellsOf_one _) ⟨_,_,_,rfl,rfl,Rd.whole (ins_same _ _ _)⟩ ?_ fun yv2 O5 by' hy5 hyf hk5=>?_
          · rw[List.length_map,List.length_map]
            have:=refP_le v g i j
            omega
          have ay2:=Ap.fresh hov4 ayo hyf
          have ax5:=(Ap.fresh hx4 ax2.symm hyf).symm
          have hx5:=OwnA.keep hx4 hk5 ax2.symm
          have hov5:VecA O5 _ _ ob:=OwnA.keep hov4 hk5 ayo
          conv=>whnf
          have evj:vAt v j=v[j]:=by simp[vAt,List.getD_eq_getElem?_getD,hij]
          refine⟨(j+1,_,xv2,yv2,O5,some bx,some by'),⟨by dsimp only;omega,hsj.trans (sc.trans (s5.trans s6)),?_,?_,hov5,ax5,ao2,ay2⟩,by dsimp only;omega,?_⟩
          · dsimp only
            rw[refP_succ,hB,if_pos rfl,List.map_append]
            unfold VecA
            rw[List.map_append]
            show OwnA O5 5 32 xv2 (_++[cellsOf (entry _ _ _)]) _
            rw[eent]
            exact hx5
          · dsimp only
            rw[refP_succ,hB,if_pos rfl,List.map_append]
            unfold VecA
            rw[List.map_append]
            show OwnA O5 5 32 yv2 (_++[cellsOf (vAt v j)]) _
            rw[evj]
            exact hy5
          refine⟨rfl,rfl,?_⟩
          conv=>whnf
          repeat (refine⟨rfl,?_⟩;conv=>whnf)
          refine⟨by show En.v (.int .i64 (IntKind.i64.wrap (j+1)))=_;rw[wrap_id (by omega) (by omega)]<;>rfl,?_⟩
          conv=>whnf
          repeat (refine⟨rfl,?_⟩;conv=>whnf)
          exact trivial
        · have hB:refB (gM g) (gwn g) g.ws.length i j=false:=by
            unfold refB
            rw[enz,show (!eqN (((gM g)[(spl (gwn g) g.ws.length i).1])[(spl (gwn g) g.ws.length j).1]) (P4.zero,0))=false from hz]
            simp
          conv=>whnf
          refine⟨(j+1,Hc,.slice xvb ((refP v g i j).map Prod.fst).length xvc,.slice yvb ((refP v g i j).map Prod.snd).length yvc,Oj,xo,yo),⟨by dsimp only;omega,hsj.trans sc,?_,?_,hovj,axy,axo,ayo⟩,by dsimp only;omega,?_⟩
          · dsimp only
            rw[skip hB]
            exact hxv
          · dsimp only
            rw[skip hB]
            exact hyv
          refine⟨rfl,rfl,?_⟩
          conv=>whnf
          repeat (refine⟨rfl,?_⟩;conv=>whnf)
          refine⟨by show En.v (.int .i64 (IntKind.i64.wrap (j+1)))=_;rw[wrap_id (by omega) (by omega)]<;>rfl,?_⟩
          conv=>whnf
          repeat (refine⟨rfl,?_⟩;conv=>whnf)
          exact trivial
      · have hB:refB (gM g) (gwn g) g.ws.length i j=false:=by
          unfold refB
          have:¬ ((spl (gwn g) g.ws.length i).2:Int)=(spl (gwn g) g.ws.length j).2:=by simpa using hl
          rw[show ((spl (gwn g) g.ws.length i).2 == (spl (gwn g) g.ws.length j).2)=false from beq_false_of_ne fun e=>this (by rw[e])]
          rfl
        conv=>whnf
        refine⟨(j+1,Hc,.slice xvb ((refP v g i j).map Prod.fst).length xvc,.slice yvb ((refP v g i j).map Prod.snd).length yvc,Oj,xo,yo),⟨by dsimp only;omega,hsj.trans sc,?_,?_,hovj,axy,axo,ayo⟩,by dsimp only;omega,?_⟩
        · dsimp only
          rw[skip hB]
          exact hxv
        · dsimp only
          rw[skip hB]
          exact hyv
        refine⟨rfl,rfl,?_⟩
        conv=>whnf
        repeat (refine⟨rfl,?_⟩;conv=>whnf)
        refine⟨by show En.v (.int .i64 (IntKind.i64.wrap (j+1)))=_;rw[wrap_id (by omega) (by omega)]<;>rfl,?_⟩
        conv=>whnf
        repeat (refine⟨rfl,?_⟩;conv=>whnf)
        exact trivial
    have hij:j=v.length:=by
      have:=of_decide_eq_false hcj
      omega
    subst hij
    dsimp only
    conv=>whnf
    have hpl:=refP_le v g i v.length
    refine (Cl.share' ent fun hd=>c106 ((refP v g i v.length).map Prod.fst) ((refP v g i v.length).map Prod.snd) (by rw[List.length_map];omega) (by simp) _ _ _ (NumO.share hxv.num hd) (NumO.share hyv.num hd)).mono fun r Hd Od sd hr=>?_
    obtain⟨hsO,hr⟩:=hr
    rw[dot_dotP _ _ (by simp) _ (Nat.le_refl _),zip_fst,List.take_of_length_le (by simp)] at hr
    rw[show dotP (refP v g i v.length)=rowG v g i from hok.row v hv hii] at hr
    subst hr
    have hov6:VecA Od _ _ ob:=OwnA.up hovj hsO
    conv=>whnf
    intro b8
    conv=>whnf
    refine if_intro (fun he=>?_) (fun he=>?_)
    · conv=>whnf
      rw[doneG_bad hii hpi (by simpa using he)]
      exact OutVO.bad
    conv=>whnf
    intro b9 hb9 hO9
    conv=>whnf
    have s9:=sub_ins Hd (.cells ⟨cellsOf (rowG v g i).1⟩ 32 (0,0)) hb9
    refine append_ap (xs:=(outP v g i).map cellsOf) (y:=cellsOf (rowG v g i).1) hov6 rfl rfl (cellsOf_one _) ⟨_,_,_,rfl,rfl,Rd.whole (ins_same _ _ _)⟩ ?_ fun ov2 O7 bo ho7 _ _=>?_
    · simp[outP]
      omega
    conv=>whnf
    refine⟨(i+1,_,ov2,O7,some bo),⟨by dsimp only;omega,hsaj.trans (sd.trans s9),?_,fun a ha=>?_⟩,by dsimp only;omega,?_⟩
    · dsimp only
      unfold VecA
      rw[outP_succ,List.map_append]
      exact ho7
    · dsimp only at ha
      rcases Nat.lt_succ_iff_lt_or_eq.1 ha with h | rfl
      · exact hpi a h
      · simpa using he
    refine⟨rfl,rfl,?_⟩
    conv=>whnf
    repeat (refine⟨rfl,?_⟩;conv=>whnf)
    refine⟨by show En.v (.int .i64 (IntKind.i64.wrap (i+1)))=_;rw[wrap_id (by omega) (by omega)]<;>rfl,?_⟩
    conv=>whnf
    repeat (refine⟨rfl,?_⟩;conv=>whnf)
    exact trivial
  have hii:i=v.length:=by
    have:=of_decide_eq_false hci
    omega
  subst hii
  conv=>whnf
  rw[doneG_good hpi]
  exact⟨_,rfl,hov.num⟩
end Go.Proofs.YtmhnalikebkhjaaGreatDoor

namespace Go.Proofs.YtmhnalikebkhjaaGreatDoor
open Go.Proofs.YtmhnalikebkhjaaGreatDoor.X Go.Proofs.YtmhnalikebkhjaaGreatDoor.X.PH
set_option maxRecDepth 100000
def keepB (i w : Nat) (x:Int):Bool:=(if i.testBit w then (1:Int) else 0) == x
def kept1 (v : Vec) (w:Nat) (x:Int) (i:Nat):P4 × Int:=if keepB i w x=true then (LeastF (vAt v i).1 (vAt v i).2).1 else (P4.zero,0)
def keptN (v : Vec) (w:Nat) (x:Int) (n:Nat):Vec:=(List.range n).map (kept1 v w x)
def keptV (v : Vec) (w:Nat) (x:Int):Vec:=keptN v w x v.length
theorem keptN_succ (v : Vec) (w:Nat) (x:Int) (n:Nat):keptN v w x (n+1)=keptN v w x n++[kept1 v w x n]:=by
  unfold keptN
  rw[List.range_succ,List.map_append]
  rfl
def findV (v : Vec) (w x:Int):Vec × Int:=if stErr v ≠ 0 then ([],stErr v) else if w < 0∨w ≥ sizeI v.length then ([],1) else if x < 0∨x > 1 then ([],3) else (keptV v w.toNat x,0)
def applyV (v : Vec) (g:Gt):Vec × Int:=if stErr v ≠ 0 then ([],stErr v) else if gErr g (sizeI v.length) ≠ 0 then ([],gErr g (sizeI v.length)) else doneG v g
def oddsV (v : Vec) (w:Int):(P4 × Int) × Int:=if (findV v w 1).2 ≠ 0 then ((P4.zero,0),(findV v w 1).2) else NormV (findV v w 1).1
theorem d24o (v : Vec) (g:Gt) (hv:v.length < 9223372036854775808) (hl:g.ws.length < 1000000) (H:PH) (x w:Value) (hx:NumH H x v) (hw:IntsC H w g.ws):Cl Tryz.prog 24 [x,gv g w] H emp fun r _ M'=>OutVO M' r (applyV v g):=by
  obtain⟨xb,xc,rfl,_⟩:=id hx
  obtain⟨wb,wc,rfl,_⟩:=id hw
  refine Cl_of (pol:=polL) Γok Tryz.func24 (by kernel_rfl) rfl ?_
  conv=>whnf
  intro b1
  conv=>whnf
  refine (d49 v hv _ _ hx).val fun Ha sa=>?_
  conv=>whnf
  refine if_intro (fun h=>?_) (fun h=>?_)
  · conv=>whnf
    rw[show applyV v g=([],stErr v) from if_pos (by simpa using h)]
    exact OutVO.bad
  conv=>whnf
  refine W_draw (pol:=polL) Γok mixes [(0,.pend),(1,.pendO),(2,.pendO),(3,.lock),(4,.lock),(5,.pendO)] 26 (by kernel_rfl) rfl ?_
  conv=>whnf
  refine (d72 v.length _).val fun Hb sb=>?_
  conv=>whnf
  refine (d71 g (sizeI v.length) hl _ _ ((hw.up sa).up sb)).val fun Hc sc=>?_
  conv=>whnf
  refine if_intro (fun h'=>?_) (fun h'=>?_)
  · conv=>whnf
    rw[show applyV v g=([],gErr g (sizeI v.length)) by unfold applyV;rw[if_neg (by simpa using h),if_pos (by simpa using h')]]
    exact OutVO.bad
  rw[show applyV v g=doneG v g by unfold applyV;rw[if_neg (by simpa using h),if_neg (by simpa using h')]]
  obtain⟨_,q,hq,hl2,hs⟩:=stErr_right (v:=v) (by simpa using h)
  have hok:GateOK g q:=gErr_ok (by omega) (by rw[← hs];simpa using h')
  conv=>whnf
  refine (d73o v g q hok hl2 _ _ _ (NumH.up (NumH.up (NumH.up hx sa) sb) sc) (((hw.up sa).up sb).up sc)).mono fun r Hd Od sd hr=>?_
  obtain⟨u,rfl,hu⟩:=hr
  conv=>whnf
  exact⟨u,rfl,hu⟩
theorem bit_cond {i w : Nat} (hi:i < 64) (hw:w < 6):andI (shrI (i:Int) (w:Int)) 1=if i.testBit w then 1 else 0:=bit_shr i hi w hw
set_option maxHeartbeats 1000000 in
theorem d74o (v : Vec) (w:Nat) (x:Int) (hv:v.length≤64) (hr:∀ y∈v,checkF y.1 y.2=0) (hw:w < 6) (H:PH) (u:Value) (hu:NumH H u v):Cl Tryz.prog 74 [u,.int .i64 w,.int .i64 x] H emp fun r _ M'=>NumO M' r (keptV v w x):=by
  obtain⟨ub,uc,rfl,_⟩:=id hu
  refine Cl_of (pol:=(fun | 30=>.imm | _=>.loc)) Γok Tryz.func74 (by kernel_rfl) rfl ?_
  conv=>whnf
  refine W_loop (pol:=(fun | 30=>.imm | _=>.loc)) Γok (Nat × PH × Value × PH) (fun i=>i.1≤v.length∧Sub H i.2.1∧NumO i.2.2.2 i.2.2.1 (keptN v w x i.1)) (fun i=>v.length - i.1) (fun i=>[(7,.v i.2.2.1),(8,.v (.int .i64 i.1))]) (fun _=>[]) (fun i=>i.2.1) (fun i=>i.2.2.2) ⟨(0,H,.slice none 0 0,emp),⟨by simp,Sub.refl _,nilVO _⟩,rfl,rfl,?_⟩ ?_
  · conv=>whnf
    repeat (refine⟨rfl,?_⟩;conv=>whnf)
    exact trivial
  rintro ⟨i,Hi,ov,Oi⟩ ⟨h1i,hsi,ho⟩
  dsimp only at h1i hsi ho
  obtain⟨ovb,ovn,ovc,rfl⟩:=OwnS.sl ho
  conv=>whnf
  refine if_intro (fun hci=>?_) (fun hci=>?_)
  · have hii:i < v.length:=by
      have:=of_decide_eq_true hci
      omega
    conv=>whnf
    intro b5
    conv=>whnf
    have eb:=bit_cond (i:=i) (w:=w) (by omega) hw
    unfold andI shrI at eb
    rw[eb]
    have ek:keepB i w x=((if i.testBit w then (1:Int) else 0) == x):=rfl
    rw[← ek]
    have ev:vAt v i=v[i]:=by simp[vAt,List.getD_eq_getElem?_getD,hii]
    have hk:=hr v[i] (List.getElem_mem hii)
    have hkr:=right_in hk
    refine if_intro (fun hx=>?_) (fun hx=>?_)
    · have e1:kept1 v w x i=formR v[i].1 v[i].2:=by
        unfold kept1
        rw[if_pos hx,ev,LeastF_eq hk]
      conv=>whnf
      obtain⟨_,b,off,rfl,hrd⟩:=(NumH.up hu hsi).rd (O:=Oi) hii
      conv=>whnf
      refine dec_intro (by omega) ?_
      conv=>whnf
      refine⟨_,hrd,?_⟩
      conv=>whnf
      refine (c72 v[i].1 v[i].2 (by omega) (by omega) _).val fun Hb sb=>?_
      conv=>whnf
      intro b6 hb6 hO6
      conv=>whnf
      have s6:=sub_ins Hb (.cells ⟨cellsOf (formR v[i].1 v[i].2)⟩ 32 (0,0)) hb6
      refine append_one (xs:=(keptN v w x i).map cellsOf) (y:=cellsOf (kept1 v w x i)) ho rfl rfl (cellsOf_one _) ⟨_,_,_,rfl,(by rw[e1]<;>rfl),Rd.whole (ins_same _ _ _)⟩ ?_ fun v2 O4 hO4 _=>?_
      · simp[keptN]
        omega
      conv=>whnf
      refine⟨(i+1,_,v2,O4),⟨by dsimp only;omega,(hsi.trans sb).trans s6,?_⟩,by dsimp only;omega,?_⟩
      · dsimp only
        unfold NumO
        rw[keptN_succ,List.map_append]
        exact hO4
      refine⟨rfl,rfl,?_⟩
      conv=>whnf
      repeat (refine⟨rfl,?_⟩;conv=>whnf)
      refine⟨by show En.v (.int .i64 (IntKind.i64.wrap (i+1)))=_;rw[wrap_id (by omega) (by omega)]<;>rfl,?_⟩
      conv=>whnf
      repeat (refine⟨rfl,?_⟩;conv=>whnf)
      exact trivial
    · have e1:kept1 v w x i=(P4.zero,0):=by
        unfold kept1
        rw[if_neg (by rw[hx];simp)]
      conv=>whnf
      intro b6 hb6 hO6
      conv=>whnf
      have s6:=sub_ins Hi (.cells ⟨cellsOf (P4.zero,0)⟩ 32 (0,0)) hb6
      refine append_one (xs:=(keptN v w x i).map cellsOf) (y:=cellsOf (kept1 v w x i)) ho rfl rfl (cellsOf_one _) ⟨_,_,_,rfl,(by rw[e1]<;>rfl),Rd.whole (ins_same _ _ _)⟩ ?_ fun v2 O4 hO4 _=>?_
      · simp[keptN]
        omega
      conv=>whnf
      refine⟨(i+1,_,v2,O4),⟨by dsimp only;omega,hsi.trans s6,?_⟩,by dsimp only;omega,?_⟩
      · dsimp only
        unfold NumO
        rw[keptN_succ,List.map_append]
        exact hO4
      refine⟨rfl,rfl,?_⟩
      conv=>whnf
      repeat (refine⟨rfl,?_⟩;conv=>whnf)
      refine⟨by show En.v (.int .i64 (IntKind.i64.wrap (i+1)))=_;rw[wrap_id (by omega) (by omega)]<;>rfl,?_⟩
      conv=>whnf
      repeat (refine⟨rfl,?_⟩;conv=>whnf)
      exact trivial
  have hii:i=v.length:=by
    have:=of_decide_eq_false hci
    omega
  subst hii
  conv=>whnf
  exact ho
theorem findV_in {v : Vec} {w x:Int} (h:stErr v=0) (h1:¬ (w < 0∨w ≥ sizeI v.length)) (h2:¬ (x < 0∨x > 1)):findV v w x=(keptV v w.toNat x,0):=by
  unfold findV
  rw[h,if_neg (by simp),if_neg h1,if_neg h2]
theorem d25o (v : Vec) (w x:Int) (hv:v.length < 9223372036854775808) (H:PH) (u:Value) (hu:NumH H u v):Cl Tryz.prog 25 [u,.int .i64 w,.int .i64 x] H emp fun r _ M'=>OutVO M' r (findV v w x):=by
  obtain⟨ub,uc,rfl,_⟩:=id hu
  refine Cl_of (pol:=polL) Γok Tryz.func25 (by kernel_rfl) rfl ?_
  conv=>whnf
  refine (d49 v hv _ _ hu).val fun Ha sa=>?_
  conv=>whnf
  refine if_intro (fun h=>?_) (fun h=>?_)
  · conv=>whnf
    rw[show findV v w x=([],stErr v) from if_pos (by simpa using h)]
    exact OutVO.bad
  have h0:stErr v=0:=by simpa using h
  obtain⟨hright,q,hq,hl2,hs⟩:=stErr_right h0
  have bad1:(w < 0∨w ≥ sizeI v.length)→findV v w x=([],1):=fun h=>by unfold findV;rw[h0,if_neg (by simp),if_pos h]
  conv=>whnf
  refine if_intro (fun h1=>?_) (fun h1=>?_)
  · conv=>whnf
    rw[bad1 (.inl (of_decide_eq_true h1))]
    exact OutVO.bad
  conv=>whnf
  refine (d72 v.length _).val fun Hb sb=>?_
  conv=>whnf
  refine if_intro (fun h2=>?_) (fun h2=>?_)
  · conv=>whnf
    rw[bad1 (.inr (of_decide_eq_true h2))]
    exact OutVO.bad
  have hin:¬ (w < 0∨w ≥ sizeI v.length):=fun h=>h.elim (of_decide_eq_false h1) (of_decide_eq_false h2)
  have bad3:(x < 0∨x > 1)→findV v w x=([],3):=fun h=>by unfold findV;rw[h0,if_neg (by simp),if_neg hin,if_pos h]
  conv=>whnf
  refine if_intro (fun h3=>?_) (fun h3=>?_)
  · conv=>whnf
    rw[bad3 (.inl (of_decide_eq_true h3))]
    exact OutVO.bad
  conv=>whnf
  refine if_intro (fun h4=>?_) (fun h4=>?_)
  · conv=>whnf
    rw[bad3 (.inr (of_decide_eq_true h4))]
    exact OutVO.bad
  have hin2:¬ (x < 0∨x > 1):=fun h=>h.elim (of_decide_eq_false h3) (of_decide_eq_false h4)
  rw[findV_in h0 hin hin2]
  obtain⟨p1,p2⟩:=pow6 (n:=q) (by omega)
  obtain⟨w,rfl⟩:=natI (a:=w) (by omega)
  rw[Int.toNat_natCast]
  conv=>whnf
  refine (d74o v w x (by omega) hright (by omega) _ _ (NumH.up (NumH.up hu sa) sb)).mono fun r Hd Od sd hr=>?_
  conv=>whnf
  obtain⟨rb,rn,rc,rfl⟩:=OwnS.sl hr
  conv=>whnf
  exact⟨_,rfl,hr⟩
theorem kept_len (v : Vec) (w:Nat) (x:Int):(keptV v w x).length=v.length:=by simp[keptV,keptN]
theorem find_len (v : Vec) (w x:Int):(findV v w x).1.length≤v.length:=by
  unfold findV
  split
  · simp
  split
  · simp
  split
  · simp
  · rw[kept_len];exact Nat.le_refl _
theorem d26 (v : Vec) (w:Int) (hv:v.length < 9223372036854775808) (H:PH) (u:Value) (hu:NumH H u v):Cl Tryz.prog 26 [u,.int .i64 w] H emp fun r _ _=>r=ne (oddsV v w):=by
  obtain⟨ub,uc,rfl,_⟩:=id hu
  refine Cl_of (pol:=polL) Γok Tryz.func26 (by kernel_rfl) rfl ?_
  conv=>whnf
  intro b1
  conv=>whnf
  refine (Cl.outV (d25o v w 1 hv _ _ hu)).use fun r Ha sa hr=>?_
  obtain⟨_,y,rfl,hy⟩:=hr
  obtain⟨yb,yc,rfl,_⟩:=id hy
  conv=>whnf
  refine if_intro (fun h=>?_) (fun h=>?_)
  · conv=>whnf
    rw[show oddsV v w=((P4.zero,0),(findV v w 1).2) from if_pos (by simpa using h)]
    rfl
  conv=>whnf
  refine (d42 (findV v w 1).1 (by have:=find_len v w 1;omega) _ _ hy).val fun Hb sb=>?_
  conv=>whnf
  rw[show oddsV v w=NormV (findV v w 1).1 from if_neg (by simpa using h)]
  rfl
end Go.Proofs.YtmhnalikebkhjaaGreatDoor

namespace Go.Proofs.YtmhnalikebkhjaaGreatDoor
open Go.Proofs.YtmhnalikebkhjaaGreatDoor.X Go.Proofs.YtmhnalikebkhjaaGreatDoor.X.PH
set_option maxRecDepth 100000
def OpsO (H O : PH) (b:Nat):Prop:=∃ es clk,O b=some (.map ⟨es⟩ clk)∧∀ n:Int,Instr.findNow (.int .i64) (.int .i64 n) es 0=some none∨∃ j u,Instr.findNow (.int .i64) (.int .i64 n) es 0=some (some (j,u))∧MatH H u (OfR n).1
theorem OpsO.up {H H' O O' : PH} {b:Nat} (h:OpsO H O b) (hs:Sub H H') (ho:O' b=O b):OpsO H' O' b:=by
  obtain⟨es,clk,h1,h2⟩:=h
  refine⟨es,clk,ho.trans h1,fun n=>(h2 n).imp id ?_⟩
  rintro ⟨j,u,h3,h4⟩
  exact⟨j,u,h3,h4.up hs⟩
theorem OpsO.new {H O : PH} {b:Nat} (h:O b=some (.map #[] 0)):OpsO H O b:=⟨[],0,h,fun n=>.inl rfl⟩
theorem c21r (k : Int) (H:PH):Cl Tryz.prog 155 [.int .i64 k] H emp fun r H' _=>OutH H' r (OfR k):=Cl.outH (c21m k H)
theorem d118 (k : Int) (b:Nat) (H O:PH) (h:OpsO H O b):Cl Tryz.prog 118 [.map (some b),.int .i64 k] H O fun r H' O'=>MatH H' r (OfR k).1∧OpsO H' O' b∧∀ n,n ≠ b→O' n=O n:=by
  obtain⟨es,clk,hO,hes⟩:=id h
  refine Cl_of (pol:=polL) Γok Tryz.func118 (by kernel_rfl) rfl ?_
  conv=>whnf
  unfold lookK
  rcases hes k with hf | ⟨j,u,hf,hu⟩
  · refine⟨.i64,k,rfl,.inr ⟨b,⟨es⟩,clk,none,rfl,.inr hO,hf,?_⟩⟩
    intro z
    conv=>whnf
    refine (c21r k _).use fun r Ha sa hr=>?_
    obtain⟨_,u,rfl,hu⟩:=hr
    conv=>whnf
    unfold enterK
    refine⟨.i64,k,b,⟨es⟩,clk,rfl,rfl,hO,hf,?_⟩
    conv=>whnf
    have hp:=fun n=>find_push (k:=k) (v:=u) (born:=clk) (n:=n) es 0
    have hp2:Instr.findNow (.int .i64) (.int .i64 k) (es++[{ key:=.int .i64 k,val:=u,born:=clk }]) 0=some (some (0+es.length,u)):=by rw[(hp k).2 hf,if_pos rfl]
    unfold lookK
    refine⟨.i64,k,rfl,.inr ⟨b,⟨es++[{ key:=.int .i64 k,val:=u,born:=clk }]⟩,clk+1,some (0+es.length,u),rfl,.inr (by rw[ins_same];simp),hp2,?_⟩⟩
    intro z
    conv=>whnf
    refine⟨hu,⟨es++[{ key:=.int .i64 k,val:=u,born:=clk }],clk+1,by rw[ins_same];simp,fun n=>?_⟩,fun n hn=>ins_ne _ _ hn⟩
    rcases hes n with hn | ⟨j,u',hn,hu'⟩
    · by_cases e:n=k
      · subst e
        exact .inr ⟨_,u,hp2,hu⟩
      · exact .inl (by rw[(hp n).2 hn,if_neg e])
    · exact .inr ⟨j,u',(hp n).1 j u' hn,hu'.up sa⟩
  · refine⟨.i64,k,rfl,.inr ⟨b,⟨es⟩,clk,some (j,u),rfl,.inr hO,hf,?_⟩⟩
    intro z
    conv=>whnf
    unfold lookK
    refine⟨.i64,k,rfl,.inr ⟨b,⟨es⟩,clk,some (j,u),rfl,.inr hO,hf,?_⟩⟩
    intro z
    conv=>whnf
    exact⟨hu,h,fun _ _=>rfl⟩
end Go.Proofs.YtmhnalikebkhjaaGreatDoor
