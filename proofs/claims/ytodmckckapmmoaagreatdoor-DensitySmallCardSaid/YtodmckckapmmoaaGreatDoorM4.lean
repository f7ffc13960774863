/- A logic for code of the model, proved sound, and what functions do that the laws on matrices come to; nothing is asked. Part 4. -/
import Derived.Test.YtodmckckapmmoaaGreatDoorM3
set_option linter.unusedVariables false
set_option linter.unusedSimpArgs false
set_option linter.unnecessarySimpa false
namespace Go.Proofs.YtodmckckapmmoaaGreatDoor
open Go.Proofs.YtodmckckapmmoaaGreatDoor.X Go.Proofs.YtodmckckapmmoaaGreatDoor.X.PH
set_option maxRecDepth 100000
def MadeH (F : Nat→Nat→(P4 × Int) × Int) (h w:Nat) (r:Value) (H:PH):Prop:=
 (firstErr (errsE F h w) ≠ 0∧r=.tuple #[.slice none 0 0,.int .i64 (firstErr (errsE F h w))]) ∨
 (firstErr (errsE F h w)=0∧∃ u,r=.tuple #[u,.int .i64 0]∧MatH H u (fills F h w (h*w)))
theorem MadeE.pub {F : Nat→Nat→(P4 × Int) × Int} {h w:Nat} {r:Value} {H M:PH} (hd:Dis H M) (h':MadeE F h w r M):MadeH F h w r (un H M):=by
 rcases h' with h' | ⟨h1,u,h2,h3⟩
 ·exact .inl h'
 ·exact .inr ⟨h1,u,h2,h3.share hd⟩
theorem MatH.row' {H : PH} {base:Option Addr} {n cap:Nat} {m:List (List (P4 × Int))} (h:MatH H (.slice base n cap) m) {i k:Nat} (hi:i < m.length) (hk:k < m[i].length) :
 ∃ b off b' off' cap',base=some ⟨b,off,none⟩∧(∀ O,Rd H O ⟨b,off+i*1,none⟩ 1 [.slice (some ⟨b',off',none⟩) m[i].length cap'])∧∀ O,Rd H O ⟨b',off'+k*5,none⟩ 5 (cellsOf m[i][k]):=by
 obtain⟨b,off,bb,cc,hb,hrd,hn⟩:=h.rd (O:=emp) hi
 obtain⟨_,b',off',rfl,hrd'⟩:=hn.rd (O:=emp) hk
 exact⟨b,off,b',off',cc,hb,fun O=>hrd.anyO,fun O=>hrd'.anyO⟩
theorem c167 (m : List (List (P4 × Int))) (i a b:Nat) (ha:a < m.length) (hi:i < m[a].length) (H:PH) (v:Value) (bm bp:Nat) (t t':TypeId) (hv:MatH H v m) (hb:H bm=some (.cells ⟨[v]⟩ t (0,0))) (hp:H bp=some (.cells ⟨[.int .i64 a,.int .i64 b]⟩ t' (0,0))) :
 Cl Tryz.prog 196 [.int .i64 i,.pointer (some ⟨bm,0,none⟩),.pointer (some ⟨bp,0,none⟩)] H emp fun r _ _=>r=nv m[a][i]:=by
 obtain⟨base,cap,rfl⟩:=hv.sl
 obtain⟨b0,off,b',off',cap',rfl,h1,h2⟩:=hv.row' ha hi
 refine Cl_of (pol:=polL) Γok Tryz.func196 (by kernel_rfl) rfl ?_
 conv=>whnf
 repeat (intro _;conv=>whnf)
 refine⟨_,Rd.whole hb,?_⟩
 conv=>whnf
 refine⟨[.int .i64 a],⟨rfl,rfl,_,_,_,.inl hp,rfl⟩,?_⟩
 conv=>whnf
 refine dec_intro (by omega) ?_
 conv=>whnf
 refine⟨_,h1 _,?_⟩
 conv=>whnf
 refine dec_intro (by omega) ?_
 conv=>whnf
 refine⟨_,h2 _,?_⟩
 conv=>whnf
 rfl
theorem c168 (m : List (List (P4 × Int))) (i a b:Nat) (hi:i < m.length) (hb':b < m[i].length) (H:PH) (v:Value) (bm bp:Nat) (t t':TypeId) (hv:MatH H v m) (hb:H bm=some (.cells ⟨[v]⟩ t (0,0))) (hp:H bp=some (.cells ⟨[.int .i64 a,.int .i64 b]⟩ t' (0,0))) :
 Cl Tryz.prog 197 [.int .i64 i,.pointer (some ⟨bm,0,none⟩),.pointer (some ⟨bp,0,none⟩)] H emp fun r _ _=>r=nv m[i][b]:=by
 obtain⟨base,cap,rfl⟩:=hv.sl
 obtain⟨b0,off,b',off',cap',rfl,h1,h2⟩:=hv.row' hi hb'
 refine Cl_of (pol:=polL) Γok Tryz.func197 (by kernel_rfl) rfl ?_
 conv=>whnf
 repeat (intro _;conv=>whnf)
 refine W_draw (pol:=polL) Γok mixes [(0,.pendO),(1,.pendO),(2,.pendO),(3,.pendO),(4,.pendO),(5,.pendO),(6,.pendO),(7,.pendO),(8,.lock)] 13 (by kernel_rfl) rfl ?_
 conv=>whnf
 refine⟨_,Rd.whole hb,?_⟩
 conv=>whnf
 refine dec_intro (by omega) ?_
 conv=>whnf
 refine⟨_,h1 _,?_⟩
 conv=>whnf
 refine⟨[.int .i64 b],⟨rfl,rfl,_,_,_,.inl hp,rfl⟩,?_⟩
 conv=>whnf
 refine dec_intro (by omega) ?_
 conv=>whnf
 refine⟨_,h2 _,?_⟩
 conv=>whnf
 rfl
def mulAt (m n : List (List (P4 × Int))) (i k:Nat):(P4 × Int) × Int:=dotF (fun t=>entry m i t) (fun t=>entry n t k) n.length
theorem c166 (m n : List (List (P4 × Int))) (i k:Nat) (hn:n.length < 1000000) (hi:i < m.length) (hm:n.length≤m[i].length) (hk:∀ r∈n,k < r.length) (H:PH) (u v:Value) (bm bn:Nat) (t t':TypeId) (hu:MatH H u m) (hv:MatH H v n) (hbm:H bm=some (.cells ⟨[u]⟩ t (0,0))) (hbn:H bn=some (.cells ⟨[v]⟩ t' (0,0))) :
 Cl Tryz.prog 194 [place i k,.pointer (some ⟨bn,0,none⟩),.pointer (some ⟨bm,0,none⟩)] H emp fun r _ _=>r=ne (mulAt m n i k):=by
 obtain⟨base,cap,rfl⟩:=hv.sl
 refine Cl_of (pol:=fun | 3=>.imm | _=>.loc) Γok Tryz.func194 (by kernel_rfl) rfl ?_
 conv=>whnf
 intro bp hbp _
 conv=>whnf
 intro b4
 conv=>whnf
 have hs:=sub_ins H (.cells ⟨[.int .i64 i,.int .i64 k]⟩ 132 (0,0)) hbp
 refine⟨_,Rd.whole (hs _ _ hbn),?_⟩
 conv=>whnf
 refine (c118 (fun t=>entry m i t) (fun t=>entry n t k) n.length hn _ _ _ _ _ _ _ (fun j hj=>?_) (fun j hj=>?_)).val fun H2 s2=>?_
 ·rw[entry_get hi (by omega)]
  exact⟨196,[],[_,_],rfl,fun H' hs'=>c167 m j i k hi (by omega) H' _ _ _ _ _ ((hu.up hs).up hs') (hs' _ _ (hs _ _ hbm)) (hs' _ _ (ins_same _ _ _))⟩
 ·have hjk:=hk n[j] (List.getElem_mem hj)
  rw[entry_get hj hjk]
  exact⟨197,[],[_,_],rfl,fun H' hs'=>c168 n j i k hj hjk H' _ _ _ _ _ ((hv.up hs).up hs') (hs' _ _ (hs _ _ hbn)) (hs' _ _ (ins_same _ _ _))⟩
 conv=>whnf
 rfl
theorem c112 (m n : List (List (P4 × Int))) (hm:m.length < 1000000) (hn0:0 < n.length) (hn:n.length < 1000000) (hw:wideM n < 1000000) (hmr:∀ r∈m,r.length=n.length) (hnr:∀ r∈n,r.length=wideM n) (H:PH) (u v:Value) (hu:MatH H u m) (hv:MatH H v n) :
 Cl Tryz.prog 158 [u,v] H emp fun r _ M'=>MadeE (mulAt m n) m.length (wideM n) r M':=by
 obtain⟨base,cap,rfl⟩:=hu.sl
 obtain⟨base',cap',rfl⟩:=hv.sl
 refine Cl_of (pol:=fun | 2=>.imm | 3=>.imm | _=>.loc) Γok Tryz.func158 (by kernel_rfl) rfl ?_
 conv=>whnf
 intro bm hbm _
 conv=>whnf
 intro bn hbn _
 conv=>whnf
 have s1:=sub_ins H (.cells ⟨[.slice base m.length cap]⟩ 133 (0,0)) hbm
 have s2:=sub_ins _ (.cells ⟨[.slice base' n.length cap']⟩ 133 (0,0)) hbn
 refine W_draw (pol:=polL) Γok mixes [(0,.pend),(1,.pend),(2,.pendO),(4,.pend),(3,.lock),(5,.lock),(6,.pendO),(7,.pendO),(8,.pendO),(9,.pendO)] 14 (by kernel_rfl) rfl ?_
 conv=>whnf
 refine (c111 n hn0 _ _ ((hv.up s1).up s2)).val fun H2 s3=>?_
 conv=>whnf
 refine (c81 (mulAt m n) m.length (wideM n) hm hw _ _ _ _ (fun i k hi hk=>⟨194,[],[_,_],rfl,fun H' hs'=>?_⟩)).mono fun r H3 M3 s4 hr=>?_
 ·exact c166 m n i k hn hi (by rw[hmr _ (List.getElem_mem hi)];exact Nat.le_refl _) (fun r hr=>by rw[hnr r hr];exact hk) H' _ _ _ _ _ _ ((((hu.up s1).up s2).up s3).up hs') ((((hv.up s1).up s2).up s3).up hs') (hs' _ _ (s3 _ _ (s2 _ _ (ins_same _ _ _)))) (hs' _ _ (s3 _ _ (ins_same _ _ _)))
 rcases hr with⟨he,rfl⟩ | ⟨he,u,rfl,hu⟩
 ·conv=>whnf
  exact .inl ⟨he,rfl⟩
 ·conv=>whnf
  exact .inr ⟨he,u,rfl,hu⟩
theorem pair_mats {H : PH} {b:Nat} {t:TypeId} {u v:Value} {m n:List (List (P4 × Int))} (hb:H b=some (.cells ⟨[u,v]⟩ t (0,0))) (hu:MatH H u m) (hv:MatH H v n):MatsH H (.slice (some ⟨b,0,none⟩) 2 2) [m,n]:=by
 refine⟨[u,v],rfl,⟨_,_,rfl,.inr ⟨b,0,_,_,_,rfl,hb,rfl⟩⟩,fun i m' u' hm hu'=>?_⟩
 match i,hm,hu' with
 | 0,hm,hu'=>cases hm;cases hu';exact hu
 | 1,hm,hu'=>cases hm;cases hu';exact hv
structure Right (m : List (List (P4 × Int))):Prop where
 pos:0 < m.length
 le:m.length≤64
 row:∀ r∈m,r.length=wideM m
 wpos:0 < wideM m
 wle:wideM m≤64
theorem right_of {m : List (List (P4 × Int))} (h:checkMF m=0):Right m:=by
 rw[checkMF_checkMR] at h
 obtain⟨z1,z2,z3,_⟩:=checkMR_zero h
 have h0:=z3 _ (List.getElem_mem z1)
 have e:=wideM_get z1
 exact⟨z1,z2,fun r hr=>(z3 r hr).2.2,by omega,by omega⟩
theorem rights_of {m n : List (List (P4 × Int))} (h:errsM [m,n]=0):Right m∧Right n:=by
 have:=firstErr_zero h
 exact⟨right_of (this _ (by simp)),right_of (this _ (by simp))⟩
def MulM (m n : List (List (P4 × Int))) (r:Value) (M:PH):Prop:=
 (errsM [m,n] ≠ 0∧r=.tuple #[.slice none 0 0,.int .i64 (errsM [m,n])])∨(errsM [m,n]=0∧wideM m ≠ n.length∧r=.tuple #[.slice none 0 0,.int .i64 7]) ∨
 (errsM [m,n]=0∧wideM m=n.length∧MadeE (mulAt m n) m.length (wideM n) r M)
theorem c40 (m n : List (List (P4 × Int))) (hlm:m.length < 1000000) (hln:n.length < 1000000) (H:PH) (u v:Value) (hu:MatH H u m) (hv:MatH H v n):Cl Tryz.prog 91 [u,v] H emp fun r _ M'=>MulM m n r M':=by
 obtain⟨base,cap,rfl⟩:=hu.sl
 obtain⟨base',cap',rfl⟩:=hv.sl
 refine Cl_of (pol:=fun | 9=>.imm | _=>.loc) Γok Tryz.func91 (by kernel_rfl) rfl ?_
 conv=>whnf
 intro b hb _
 conv=>whnf
 have s1:=sub_ins H (.cells ⟨[.slice base m.length cap,.slice base' n.length cap']⟩ 23 (0,0)) hb
 refine (c101 [m,n] (by simp) (by simp;omega) _ _ (pair_mats (ins_same _ _ _) (hu.up s1) (hv.up s1))).val fun H2 s2=>?_
 conv=>whnf
 refine if_intro (fun he=>?_) (fun he=>?_)
 ·conv=>whnf
  exact .inl ⟨by simpa using he,rfl⟩
 ·have he:errsM [m,n]=0:=by simpa using he
  obtain⟨rm,rn⟩:=rights_of he
  have hu2:=(hu.up s1).up s2
  have hv2:=(hv.up s1).up s2
  conv=>whnf
  refine (c111 m rm.pos _ _ hu2).val fun H3 s3=>?_
  conv=>whnf
  refine if_intro (fun hw=>?_) (fun hw=>?_)
  ·conv=>whnf
   exact .inr (.inl ⟨he,by simp at hw;omega,rfl⟩)
  ·have hw:wideM m=n.length:=by simp at hw;omega
   conv=>whnf
   refine (c112 m n hlm rn.pos hln (by have:=rn.wle;omega) (fun r hr=>(rm.row r hr).trans hw) rn.row _ _ _ (hu2.up s3) (hv2.up s3)).mono fun r H4 M4 s4 hr=>?_
   rcases hr with⟨h1,rfl⟩ | ⟨h1,u,rfl,h2⟩
   ·conv=>whnf
    exact .inr (.inr ⟨he,hw,.inl ⟨h1,rfl⟩⟩)
   ·conv=>whnf
    exact .inr (.inr ⟨he,hw,.inr ⟨h1,u,rfl,h2⟩⟩)
def atL (l : List (P4 × Int)) (i:Nat):P4 × Int:=l.getD i (P4.zero,0)
theorem atL_get {l : List (P4 × Int)} {i:Nat} (hi:i < l.length):atL l i=l[i]:=by
 unfold atL
 simp[List.getD_eq_getElem?_getD,hi]
def IntsH (H : PH) (v:Value) (l:List Int):Prop:=SlH H v l.length (l.map fun a=>.int .i64 a)
def IntssH (H : PH) (v:Value) (ll:List (List Int)):Prop:=
 ∃ vs:List Value,vs.length=ll.length∧SlH H v ll.length vs∧∀ (i:Nat) l u,ll[i]?=some l→vs[i]?=some u→IntsH H u l
theorem IntsH.up {H H' : PH} {v:Value} {l:List Int} (h:IntsH H v l) (hs:Sub H H'):IntsH H' v l:=SlH.up h hs
theorem IntssH.up {H H' : PH} {v:Value} {ll:List (List Int)} (h:IntssH H v ll) (hs:Sub H H'):IntssH H' v ll:=by
 obtain⟨vs,h1,h2,h3⟩:=h
 exact⟨vs,h1,h2.up hs,fun i l u hl hu=>(h3 i l u hl hu).up hs⟩
theorem IntsH.rd {H : PH} {base:Option Addr} {n cap:Nat} {l:List Int} (h:IntsH H (.slice base n cap) l) {i:Nat} (hi:i < l.length) :
 ∃ b off,base=some ⟨b,off,none⟩∧∀ O,Rd H O ⟨b,off+i*1,none⟩ 1 [.int .i64 l[i]]:=by
 obtain⟨_,_,hv,_⟩:=id h
 cases hv
 obtain⟨b,off,hb,hrd⟩:=SlH.rd (O:=emp) (sz:=1) h (by simp) hi
 have e:(List.take 1 (List.drop (i*1) (l.map fun x=>Value.int .i64 x)))=[.int .i64 l[i]]:=by
  rw[Nat.mul_one,List.drop_eq_getElem_cons (by simpa using hi)];simp
 rw[e] at hrd
 exact⟨b,off,hb,fun O=>hrd.anyO⟩
theorem IntssH.rd {H : PH} {base:Option Addr} {n cap:Nat} {ll:List (List Int)} (h:IntssH H (.slice base n cap) ll) {i:Nat} (hi:i < ll.length) :
 ∃ b off base' cap',base=some ⟨b,off,none⟩∧(∀ O,Rd H O ⟨b,off+i*1,none⟩ 1 [.slice base' ll[i].length cap'])∧IntsH H (.slice base' ll[i].length cap') ll[i]:=by
 obtain⟨vs,h1,h2,h3⟩:=h
 obtain⟨_,_,hv,_⟩:=id h2
 cases hv
 obtain⟨b,off,hb,hrd⟩:=SlH.one (O:=emp) h2 h1 hi
 have hu:=h3 i ll[i] _ (List.getElem?_eq_getElem hi) (List.getElem?_eq_getElem (show i < vs.length by omega))
 obtain⟨base',cap',e,_⟩:=id hu
 rw[e] at hrd hu
 exact⟨b,off,base',cap',hb,fun O=>hrd.anyO,hu⟩
theorem OwnS.keep {O O' : PH} {sz:Nat} {t:TypeId} {v:Value} {xs:List (List Value)} (h:OwnS O sz t v xs) (hk:∀ (n:Nat) cs,O n=some (.cells cs t (0,0))→O' n=some (.cells cs t (0,0))):OwnS O' sz t v xs:=by
 obtain⟨h1,h⟩:=h
 refine⟨h1,h.imp id ?_⟩
 rintro ⟨b,cap,spare,e,hO,h2,h3⟩
 exact⟨b,cap,spare,e,hk _ _ hO,h2,h3⟩
theorem Right.lens {m : List (List (P4 × Int))} (h:Right m):m.map List.length=List.replicate m.length (wideM m):=by
 rw[List.eq_replicate_iff]
 refine⟨by simp,fun n hn=>?_⟩
 obtain⟨r,hr,rfl⟩:=List.mem_map.1 hn
 exact h.row r hr
theorem shl1 {n : Nat} (hn:n≤60):IntKind.i64.wrap (1*2 ^ (min (n:Int).toNat IntKind.i64.bits))=((2 ^ n:Nat):Int):=by
 have e:min ((n:Int).toNat) IntKind.i64.bits=n:=by
  show min _ 64=n
  rw[Int.toNat_natCast,Nat.min_eq_left (by omega)]
 have h:2 ^ n≤2 ^ 60:=Nat.pow_le_pow_right (by decide) hn
 have e2:(2:Int) ^ n=((2 ^ n:Nat):Int):=by simp
 rw[e,Int.one_mul,e2]
 generalize 2 ^ n=s at h ⊢
 exact wrap_id (by omega) (by omega)
theorem c148 (x : Int) (q:Bool) (H:PH) (b:Nat) (f:Value) (t:TypeId) (hb:H b=some (.cells ⟨[f]⟩ t (0,0))) (hf:Does Tryz.prog H f [.int .i64 x] fun r _=>r=.bool q) :
 Cl Tryz.prog 225 [.int .i64 x,.pointer (some ⟨b,0,none⟩)] H emp fun r _ _=>r=.bool (!q):=by
 refine Cl_of (pol:=polL) Γok Tryz.func225 (by kernel_rfl) rfl ?_
 conv=>whnf
 refine⟨_,Rd.whole hb,?_⟩
 conv=>whnf
 refine hf.use fun r H' hs hr=>?_
 subst hr
 conv=>whnf
theorem c76 (xs : List Int) (p:Int→Bool) (H:PH) (v:Value) (fn:Fn) (first cap:Array Value) (hv:IntsH H v xs) (hf:∀ x∈xs,Does Tryz.prog H (.func fn first cap) [.int .i64 x] fun r _=>r=.bool (p x)) (hlen:xs.length < 9223372036854775808) :
 Cl Tryz.prog 209 [v,.func fn first cap] H emp fun r _ _=>r=.bool (xs.all p):=by
 obtain⟨base,cp,rfl,hv'⟩:=id hv
 refine Cl_of (pol:=fun | 3=>.imm | _=>.loc) Γok Tryz.func209 (by kernel_rfl) rfl ?_
 conv=>whnf
 intro b hb hO
 conv=>whnf
 have hs:=sub_ins H (.cells ⟨[.func fn first cap]⟩ 130 (0,0)) hb
 refine (c147 xs (fun x=>!p x) _ _ _ (SlH.up hv hs) (fun x hx=>⟨225,[],[_],rfl,fun H' hs'=>?_⟩) hlen).val fun H' _=>?_
 ·exact c148 x (p x) H' b (.func fn first cap) _ (hs' _ _ (ins_same _ _ _)) ((hf x hx).up (hs.trans hs'))
 ·conv=>whnf
  congr 1
  simp[List.not_any_eq_all_not]
def inW (n w : Int):Bool:=decide (w ≥ 0) && decide (w < n)
theorem c77 (w n : Int) (H:PH) (b:Nat) (t:TypeId) (hb:H b=some (.cells ⟨[.int .i64 n]⟩ t (0,0))):Cl Tryz.prog 210 [.int .i64 w,.pointer (some ⟨b,0,none⟩)] H emp fun r _ _=>r=.bool (inW n w):=by
 refine Cl_of (pol:=polL) Γok Tryz.func210 (by kernel_rfl) rfl ?_
 conv=>whnf
 unfold inW
 refine if_intro (fun h=>?_) (fun h=>?_)
 ·conv=>whnf
  refine⟨_,Rd.whole hb,?_⟩
  conv=>whnf
  rw[h]
  rfl
 ·conv=>whnf
  rw[h]
  rfl
theorem c79 (m : List (List (P4 × Int))) (hm:0 < m.length) (H:PH) (v:Value) (hv:MatH H v m):Cl Tryz.prog 155 [v] H emp fun r _ _=>r=.bool ((m.length:Int) == (wideM m:Int)):=by
 obtain⟨base,cap,rfl⟩:=hv.sl
 refine Cl_of (pol:=polL) Γok Tryz.func155 (by kernel_rfl) rfl ?_
 conv=>whnf
 refine (c111 m hm _ _ hv).val fun H1 s1=>?_
 conv=>whnf
theorem c149 (xs : List Int) (x:Int) (hlen:xs.length < 9223372036854775808) (H:PH) (v:Value) (hv:IntsH H v xs):Cl Tryz.prog 214 [v,.int .i64 x] H emp fun r _ _=>∃ i:Int,r=.int .i64 i∧(decide (i ≥ 0)=xs.contains x):=by
 obtain⟨base,cap,rfl,_⟩:=id hv
 refine Cl_of (pol:=polL) Γok Tryz.func214 (by kernel_rfl) rfl ?_
 conv=>whnf
 refine W_loop (pol:=polL) Γok Nat (fun i=>i≤xs.length∧∀ y∈xs.take i,y ≠ x) (fun i=>xs.length - i) (fun i=>[(8,.v (.int .i64 i))]) (fun _=>[]) (fun _=>H) (fun _=>emp) ⟨0,⟨by simp,by simp⟩,rfl,rfl,?_⟩ ?_
 ·conv=>whnf
  repeat (refine⟨rfl,?_⟩;conv=>whnf)
  exact trivial
 ·rintro i ⟨h1,h2⟩
  conv=>whnf
  refine if_intro (fun h=>?_) (fun h=>?_)
  ·have hi:i < xs.length:=by simpa using h
   obtain⟨b,off,rfl,hrd⟩:=hv.rd hi
   conv=>whnf
   refine dec_intro (by omega) ?_
   conv=>whnf
   refine⟨_,hrd _,?_⟩
   conv=>whnf
   refine if_intro (fun he=>?_) (fun he=>?_)
   ·conv=>whnf
    have he:x=xs[i]:=by simpa using he
    refine⟨i,rfl,?_⟩
    have:xs.contains x=true:=by rw[List.contains_iff_mem,he];exact List.getElem_mem hi
    rw[this]
    simp
   ·conv=>whnf
    have he:x ≠ xs[i]:=by simpa using he
    refine⟨i+1,⟨hi,fun y hy=>?_⟩,by omega,?_⟩
    ·rw[List.take_succ_eq_append_getElem hi] at hy
     rcases List.mem_append.1 hy with hy | hy
     ·exact h2 y hy
     ·simp at hy;rw[hy];exact fun e=>he e.symm
    ·conv=>whnf
     refine⟨rfl,rfl,?_⟩
     conv=>whnf
     repeat (refine⟨rfl,?_⟩;conv=>whnf)
     refine⟨by show En.v (.int .i64 (IntKind.i64.wrap (i+1)))=_;rw[wrap_id (by omega) (by omega)];rfl,?_⟩
     conv=>whnf
     repeat (refine⟨rfl,?_⟩;conv=>whnf)
     exact trivial
  ·conv=>whnf
   have hi:i=xs.length:=by simp at h;omega
   subst hi
   rw[List.take_length] at h2
   refine⟨_,rfl,?_⟩
   have:xs.contains x=false:=by
    rw[← Bool.not_eq_true,List.contains_iff_mem]
    intro hx
    exact h2 x hx rfl
   rw[this]
   decide
theorem c78 (xs : List Int) (x:Int) (hlen:xs.length < 9223372036854775808) (H:PH) (v:Value) (hv:IntsH H v xs):Cl Tryz.prog 201 [v,.int .i64 x] H emp fun r _ _=>r=.bool (xs.contains x):=by
 refine Cl_of (pol:=polL) Γok Tryz.func201 (by kernel_rfl) rfl ?_
 conv=>whnf
 refine (c149 xs x hlen _ _ hv).use fun r H1 s1 hr=>?_
 obtain⟨_,i,rfl,hi⟩:=hr
 conv=>whnf
 rw[hi]
def andNotI (x y : Int):Int:=IntKind.i64.wrap (BitVec.ofInt IntKind.i64.bits x &&& ~~~BitVec.ofInt IntKind.i64.bits y).toNat
def andI (x y : Int):Int:=IntKind.i64.wrap (BitVec.ofInt IntKind.i64.bits x &&& BitVec.ofInt IntKind.i64.bits y).toNat
def orI (x y : Int):Int:=IntKind.i64.wrap (BitVec.ofInt IntKind.i64.bits x ||| BitVec.ofInt IntKind.i64.bits y).toNat
def shlI (x y : Int):Int:=IntKind.i64.wrap (x*2 ^ min y.toNat IntKind.i64.bits)
def shrI (x y : Int):Int:=x.fdiv (2 ^ min y.toNat IntKind.i64.bits)
def splitF (ws : List Int):Nat→Int→Int × Int
 | 0,k=>(0,k)
 | j+1,k=>(orI (splitF ws j (andNotI k (shlI 1 (ws.getD j 0)))).1 (shlI (andI (shrI k (ws.getD j 0)) 1) j),(splitF ws j (andNotI k (shlI 1 (ws.getD j 0)))).2)
theorem slice_pre (bs j cap : Nat):Value.slice (if cap=Int.toNat 0 then some ⟨bs,0,none⟩ else Option.map (fun x:Addr=>x.add (Int.toNat 0*1)) (some ⟨bs,0,none⟩)) ((j:Int).toNat - Int.toNat 0) (cap - Int.toNat 0)=.slice (some ⟨bs,0,none⟩) j cap:=by
 have e:Int.toNat 0=0:=rfl
 rw[e]
 split<;>simp[Addr.add]
theorem c80 (ws : List Int) (cap bs bf:Nat) (t t':TypeId) (fr:Nat × Nat):∀ (j:Nat) (k:Int) (H:PH),j≤ws.length→ws.length≤cap→ws.length < 100000→(∀ w∈ws,0≤w)→H bs=some (.cells ⟨ws.map fun w=>.int .i64 w⟩ t fr)→H bf=some (.cells ⟨[.func (.func 211) #[] #[.pointer (some ⟨bf,0,none⟩)]]⟩ t' (0,0)) →
 Cl Tryz.prog 211 [.int .i64 k,.slice (some ⟨bs,0,none⟩) j cap,.pointer (some ⟨bf,0,none⟩)] H emp fun r _ _=>r=.tuple #[.int .i64 (splitF ws j k).1,.int .i64 (splitF ws j k).2]
 | 0,k,H,_,_,_,_,_,_=>by
  refine Cl_of (pol:=polL) Γok Tryz.func211 (by kernel_rfl) rfl ?_
  conv=>whnf
  rfl
 | j+1,k,H,hj,hc,hl,hw,hbs,hbf=>by
  refine Cl_of (pol:=polL) Γok Tryz.func211 (by kernel_rfl) rfl ?_
  conv=>whnf
  refine W_draw (pol:=polL) Γok mixes [(0,.pendO),(1,.pendO),(2,.pendO),(3,.pendO),(4,.pendO),(5,.pendO),(6,.pendO),(7,.pendO),(8,.pendO),(9,.pendO),(10,.pendO),(11,.lock),(12,.pendO),(13,.pendO),(14,.pendO),(15,.pendO),(16,.pendO)] 44 (by kernel_rfl) rfl ?_
  conv=>whnf
  refine⟨_,Rd.whole hbf,?_⟩
  conv=>whnf
  have ej:IntKind.i64.wrap (((j+1:Nat):Int) - 1)=(j:Int):=(wrap_id (by omega) (by omega)).trans (by omega)
  rw[ej]
  conv=>whnf
  refine dec_intro (by omega) ?_
  conv=>whnf
  have hwj:=hw ws[j] (List.getElem_mem (by omega))
  refine⟨[.int .i64 ws[j]],⟨rfl,rfl,_,_,_,.inl hbs,?_⟩,?_⟩
  ·have:j < ws.length:=by omega
   simp[List.drop_eq_getElem_cons,this]
  conv=>whnf
  refine dec_intro hwj ?_
  conv=>whnf
  refine dec_intro (by omega) ?_
  conv=>whnf
  rw[slice_pre]
  have hg:ws.getD j 0=ws[j]:=by
   have:j < ws.length:=by omega
   simp[List.getD_eq_getElem?_getD,this]
  refine (c80 ws cap bs bf t t' fr j (andNotI k (shlI 1 ws[j])) _ (by omega) hc hl hw hbs hbf).val fun H2 s2=>?_
  conv=>whnf
  refine dec_intro (by omega) ?_
  conv=>whnf
  refine⟨[.int .i64 ws[j]],⟨rfl,rfl,_,_,_,.inl (s2 _ _ hbs),?_⟩,?_⟩
  ·have:j < ws.length:=by omega
   simp[List.drop_eq_getElem_cons,this]
  conv=>whnf
  refine dec_intro hwj ?_
  conv=>whnf
  have e:splitF ws (j+1) k=(orI (splitF ws j (andNotI k (shlI 1 ws[j]))).1 (shlI (andI (shrI k ws[j]) 1) j),(splitF ws j (andNotI k (shlI 1 ws[j]))).2):=by
   rw[← hg];rfl
  rw[e]
  rfl
def onAt (m : List (List (P4 × Int))) (ws:List Int) (i k:Nat):(P4 × Int) × Int:=
 if (splitF ws ws.length i).2 ≠ (splitF ws ws.length k).2 then ((P4.zero,0),0) else LeastF (entry m (splitF ws ws.length i).1.toNat (splitF ws ws.length k).1.toNat).1 (entry m (splitF ws ws.length i).1.toNat (splitF ws ws.length k).1.toNat).2
theorem c82 (m : List (List (P4 × Int))) (rm:Right m) (ws:List Int) (i k:Nat) (cap bs bf bo bm:Nat) (t t' t2 t3:TypeId) (fr:Nat × Nat) (H:PH) (v:Value) (hv:MatH H v m) (hcap:ws.length≤cap) (hl:ws.length < 100000) (hw:∀ w∈ws,0≤w)
 (hi:0≤(splitF ws ws.length i).1∧(splitF ws ws.length i).1 < m.length) (hk:0≤(splitF ws ws.length k).1∧(splitF ws ws.length k).1 < wideM m)
 (hbs:H bs=some (.cells ⟨ws.map fun w=>.int .i64 w⟩ t fr)) (hbf:H bf=some (.cells ⟨[.func (.func 211) #[] #[.pointer (some ⟨bf,0,none⟩)]]⟩ t' (0,0)))
 (hbo:H bo=some (.cells ⟨[.slice (some ⟨bs,0,none⟩) ws.length cap]⟩ t2 (0,0))) (hbm:H bm=some (.cells ⟨[v]⟩ t3 (0,0))) :
 Cl Tryz.prog 212 [place i k,.pointer (some ⟨bf,0,none⟩),.pointer (some ⟨bo,0,none⟩),.pointer (some ⟨bm,0,none⟩)] H emp fun r _ _=>r=ne (onAt m ws i k):=by
 refine Cl_of (pol:=polL) Γok Tryz.func212 (by kernel_rfl) rfl ?_
 conv=>whnf
 repeat (intro _;conv=>whnf)
 refine⟨_,Rd.whole hbf,?_⟩
 conv=>whnf
 refine⟨_,Rd.whole hbo,?_⟩
 conv=>whnf
 refine (c80 ws cap bs bf t t' fr ws.length i _ (Nat.le_refl _) hcap hl hw hbs hbf).val fun H1 s1=>?_
 conv=>whnf
 refine⟨_,Rd.whole (s1 _ _ hbf),?_⟩
 conv=>whnf
 refine⟨_,Rd.whole (s1 _ _ hbo),?_⟩
 conv=>whnf
 refine (c80 ws cap bs bf t t' fr ws.length k _ (Nat.le_refl _) hcap hl hw (s1 _ _ hbs) (s1 _ _ hbf)).val fun H2 s2=>?_
 conv=>whnf
 have ss:=s1.trans s2
 unfold onAt
 refine if_intro (fun h=>?_) (fun h=>?_)
 ·conv=>whnf
  rw[if_pos (show (splitF ws ws.length i).2 ≠ (splitF ws ws.length k).2 by simpa using h)]
  rfl
 ·rw[if_neg (show ¬ (splitF ws ws.length i).2 ≠ (splitF ws ws.length k).2 by simpa using h)]
  obtain⟨a,ha⟩:∃ a:Nat,(splitF ws ws.length i).1=a:=⟨(splitF ws ws.length i).1.toNat,by omega⟩
  obtain⟨b,hb⟩:∃ b:Nat,(splitF ws ws.length k).1=b:=⟨(splitF ws ws.length k).1.toNat,by omega⟩
  rw[ha] at hi
  rw[hb] at hk
  rw[ha,hb,Int.toNat_natCast,Int.toNat_natCast]
  conv=>whnf
  refine⟨_,Rd.whole (ss _ _ hbm),?_⟩
  conv=>whnf
  have h1:a < m.length:=by omega
  have h2:b < m[a].length:=by
   rw[rm.row _ (List.getElem_mem h1)]
   omega
  rw[entry_get h1 h2]
  refine (c84 m a b h1 h2 _ _ (hv.up ss)).val fun H3 s3=>?_
  conv=>whnf
  refine (c83 m[a][b].1 m[a][b].2 _).val fun H4 s4=>?_
  conv=>whnf
  rfl
theorem andI_one (x : Int):andI x 1=x % 2:=low_mod x
theorem orI_add {a b : Int} {j:Nat} (hj:j≤61) (ha:0≤a∧a < 2 ^ j) (hb:b=0∨b=1):orI a (shlI b j)=a+b*2 ^ j:=by
 obtain⟨n,rfl⟩:∃ n:Nat,a=n:=⟨a.toNat,by omega⟩
 have e2:(2:Int) ^ j=((2 ^ j:Nat):Int):=by simp
 rw[e2] at ha ⊢
 have hp:2 ^ j≤2 ^ 61:=Nat.pow_le_pow_right (by decide) hj
 have e:shlI b j=b*((2 ^ j:Nat):Int):=by
  unfold shlI
  have e3:min ((j:Int).toNat) IntKind.i64.bits=j:=by
   show min _ 64=j
   rw[Int.toNat_natCast,Nat.min_eq_left (by omega)]
  rw[e3,e2]
  generalize 2 ^ j=s at hp ⊢
  rcases hb with rfl | rfl
  ·rw[Int.zero_mul];exact wrap_id (by omega) (by omega)
  ·rw[Int.one_mul];exact wrap_id (by omega) (by omega)
 rw[e]
 have hn:n < 2 ^ j:=by omega
 have key:∀ s:Nat,2 ^ j=s→n < s→s≤2 ^ 61→orI n (b*(s:Int))=n+b*s:=by
  intro s hs h1 h2
  rcases hb with rfl | rfl
  ·rw[Int.zero_mul,Int.add_zero]
   unfold orI
   have:(BitVec.ofInt IntKind.i64.bits (n:Int) ||| BitVec.ofInt IntKind.i64.bits 0).toNat=n:=by
    show (BitVec.ofInt 64 (n:Int) ||| BitVec.ofInt 64 0).toNat=n
    rw[BitVec.toNat_or,BitVec.toNat_ofInt,BitVec.toNat_ofInt]
    show ((n:Int) % 18446744073709551616).toNat ||| 0=n
    rw[Nat.or_zero]
    omega
   rw[this]
   exact wrap_id (by omega) (by omega)
  ·rw[Int.one_mul]
   unfold orI
   have:(BitVec.ofInt IntKind.i64.bits (n:Int) ||| BitVec.ofInt IntKind.i64.bits (s:Int)).toNat=n+s:=by
    show (BitVec.ofInt 64 (n:Int) ||| BitVec.ofInt 64 (s:Int)).toNat=n+s
    rw[BitVec.toNat_or,BitVec.toNat_ofInt,BitVec.toNat_ofInt]
    show ((n:Int) % 18446744073709551616).toNat ||| ((s:Int) % 18446744073709551616).toNat=n+s
    rw[show ((n:Int) % 18446744073709551616).toNat=n by omega,show ((s:Int) % 18446744073709551616).toNat=s by omega]
    have:=Nat.two_pow_add_eq_or_of_lt (i:=j) (b:=n) (by omega) 1
    rw[Nat.mul_one,hs] at this
    rw[Nat.or_comm,← this,Nat.add_comm]
   rw[this]
   exact (wrap_id (by omega) (by omega)).trans (by omega)
 exact key _ rfl hn hp
theorem splitF_bound (ws : List Int):∀ (j:Nat) (k:Int),j≤62→0≤(splitF ws j k).1∧(splitF ws j k).1 < 2 ^ j
 | 0,k,_=>by simp[splitF]
 | j+1,k,hj=>by
  have ih:=splitF_bound ws j (andNotI k (shlI 1 (ws.getD j 0))) (by omega)
  simp only[splitF]
  have hb:andI (shrI k (ws.getD j 0)) 1=0∨andI (shrI k (ws.getD j 0)) 1=1:=by
   rw[andI_one];omega
  rw[orI_add (by omega) ih hb]
  have e:(2:Int) ^ (j+1)=2*2 ^ j:=by rw[Int.pow_succ];omega
  rw[e]
  generalize (2:Int) ^ j=s at ih ⊢
  rcases hb with h | h<;>rw[h]<;>omega
def twiceF (ws : List Int):Bool:=(List.range ws.length).any fun i=>(ws.take i).contains (ws.getD i 0)
def onErr (m : List (List (P4 × Int))) (ws:List Int) (n:Int):Int:=
 if checkMF m ≠ 0 then checkMF m else if (decide (n < 0) || decide (n > 6))=true then 3 else if ws.all (inW n)=false then 1 else if twiceF ws=true then 5 else if ((m.length:Int) == (wideM m:Int))=false∨(m.length:Int) ≠ shlI 1 ws.length then 7 else 0
def OnM (m : List (List (P4 × Int))) (ws:List Int) (n:Int) (r:Value) (M:PH):Prop:=
 (onErr m ws n ≠ 0∧r=.tuple #[.slice none 0 0,.int .i64 (onErr m ws n)])∨(onErr m ws n=0∧MadeE (onAt m ws) (2 ^ n.toNat) (2 ^ n.toNat) r M)
theorem ints_pre {H : PH} {bs:Nat} {ws:List Int} {t:TypeId} {fr:Nat × Nat} (h:H bs=some (.cells ⟨ws.map fun w=>.int .i64 w⟩ t fr)) {i cap:Nat} (hi:i≤ws.length):IntsH H (.slice (some ⟨bs,0,none⟩) i cap) (ws.take i):=by
 refine⟨some ⟨bs,0,none⟩,cap,by rw[List.length_take,Nat.min_eq_left hi],.inr ⟨bs,0,_,_,_,rfl,h,?_⟩⟩
 simp[Nat.min_eq_left hi,List.map_take]
theorem IntsH.whole {H : PH} {base:Option Addr} {n cap:Nat} {ws:List Int} (h:IntsH H (.slice base n cap) ws):(base=none→ws.length=0)∧∀ O a,base=some a→0 < ws.length→Rd H O a (ws.length*1) (ws.map fun w=>.int .i64 w):=by
 obtain⟨_,_,hv,h⟩:=h
 cases hv
 rcases h with⟨h,_⟩ | ⟨b,off,c,t,fr,h1,h2,h3⟩
 ·exact⟨fun _=>h,fun O a _ hp=>by omega⟩
 ·refine⟨fun e=>(by rw[e] at h1;cases h1),fun O a ha _=>?_⟩
  rw[ha] at h1
  cases h1
  refine⟨rfl,by simp,c,t,fr,.inl h2,?_⟩
  rw[Nat.mul_one]
  simpa using h3
theorem shl_len {L M : Nat} (h:(M:Int)=shlI 1 L) (h1:0 < M) (h2:M≤64):L≤60∧M=2 ^ L:=by
 by_cases hL:L≤60
 ·refine⟨hL,?_⟩
  have:=shl1 hL
  unfold shlI at h
  rw[this] at h
  exact Int.ofNat_inj.1 h
 ·exfalso
  unfold shlI at h
  have e:min ((L:Int).toNat) IntKind.i64.bits=61∨min ((L:Int).toNat) IntKind.i64.bits=62∨min ((L:Int).toNat) IntKind.i64.bits=63∨min ((L:Int).toNat) IntKind.i64.bits=64:=by
   show min _ 64=61∨min _ 64=62∨min _ 64=63∨min _ 64=64
   rw[Int.toNat_natCast]
   omega
  rcases e with e | e | e | e<;>rw[e,IntKind.wrap_i64] at h<;>omega
theorem W_pubAll {P : Program} {r:Option Nat} {c:Code} {env:List En} {loc:List (Option B)} {H O:PH} {K:Exit→S→Prop} (h:∀ H',Sub H H'→(∀ n o,O n=some o→H' n=some o)→W P r c ⟨env,loc,H',emp⟩ K):W P r c ⟨env,loc,H,O⟩ K:=
 W_pre fun hd=>⟨_,_,.all hd,h _ (fun n o hn=>by unfold un;rw[hn]) fun _ _ hn=>un_right hd hn⟩
theorem c22 (m : List (List (P4 × Int))) (hlm:m.length < 1000000) (ws:List Int) (hws:ws.length < 100000) (n:Int) (H:PH) (u v:Value) (hu:MatH H u m) (hv:IntsH H v ws):Cl Tryz.prog 192 [u,v,.int .i64 n] H emp fun r _ M'=>OnM m ws n r M':=by
 obtain⟨base,cap,rfl⟩:=hu.sl
 obtain⟨wb,wc,rfl,_⟩:=id hv
 refine Cl_of (pol:=fun | 3=>.imm | 5=>.imm | 30=>.own | 9=>.own | 12=>.own | _=>.loc) Γok Tryz.func192 (by kernel_rfl) rfl ?_
 conv=>whnf
 intro bm hbm _
 conv=>whnf
 intro bn hbn _
 conv=>whnf
 have s1:=sub_ins H (.cells ⟨[.slice base m.length cap]⟩ 23 (0,0)) hbm
 have s2:=sub_ins _ (.cells ⟨[.int .i64 n]⟩ 3 (0,0)) hbn
 have hu2:=(hu.up s1).up s2
 have hv2:=IntsH.up (IntsH.up hv s1) s2
 refine (c29 m _ _ hlm hu2).val fun H2 s3=>?_
 conv=>whnf
 refine if_intro (fun he=>?_) (fun he=>?_)
 ·conv=>whnf
  have he:checkMF m ≠ 0:=by simpa using he
  have e:onErr m ws n=checkMF m:=by unfold onErr;rw[if_pos he]
  exact .inl ⟨by rw[e];exact he,by rw[e]⟩
 have he:checkMF m=0:=by simpa using he
 have rm:=right_of he
 conv=>whnf
 have err3:(decide (n < 0) || decide (n > 6))=true→onErr m ws n=3:=fun h=>by
  unfold onErr;rw[if_neg (by simpa using he),if_pos h]
 refine if_intro (fun h1=>?_) (fun h1=>?_)
 ·conv=>whnf
  have e:=err3 (by rw[h1];rfl)
  exact .inl ⟨by rw[e];decide,by rw[e]⟩
 conv=>whnf
 refine if_intro (fun h2=>?_) (fun h2=>?_)
 ·conv=>whnf
  have e:=err3 (by rw[h2,Bool.or_true])
  exact .inl ⟨by rw[e];decide,by rw[e]⟩
 have h12:(decide (n < 0) || decide (n > 6))=false:=by rw[h1,h2];rfl
 conv=>whnf
 refine (c76 ws (inW n) _ _ _ _ _ (IntsH.up hv2 s3) (fun x hx=>⟨210,[],[_],rfl,fun H' hs'=>c77 x n H' _ _ (hs' _ _ (s3 _ _ (ins_same _ _ _)))⟩) (by omega)).val fun H3 s4=>?_
 conv=>whnf
 refine if_intro (fun h3=>?_) (fun h3=>?_)
 ·conv=>whnf
  have h3:ws.all (inW n)=false:=by
   cases e:ws.all (inW n) with
   | false=>rfl
   | true=>rw[e] at h3;cases h3
  have e:onErr m ws n=1:=by unfold onErr;rw[if_neg (by simpa using he),if_neg (by rw[h12];simp),if_pos h3]
  exact .inl ⟨by rw[e];decide,by rw[e]⟩
 have h3:ws.all (inW n)=true:=by
  cases e:ws.all (inW n) with
  | true=>rfl
  | false=>rw[e] at h3;cases h3
 conv=>whnf
 refine dec_intro (Int.le_refl _) ?_
 conv=>whnf
 refine dec_intro (by omega) ?_
 conv=>whnf
 refine dec_intro (by omega) ?_
 conv=>whnf
 intro bw hbw _
 conv=>whnf
 intro bo hbo hOo
 conv=>whnf
 have hne:bw ≠ bo:=fun e=>by subst e;rw[ins_same] at hOo;cases hOo
 refine⟨_,_,ins_same _ _ _,by simp,?_⟩
 conv=>whnf
 refine⟨_,⟨rfl,rfl,_,_,_,.inr (ins_same _ _ _),rfl⟩,?_⟩
 conv=>whnf
 have hv3:=IntsH.up (IntsH.up hv2 s3) s4
 unfold copyK
 refine⟨some ⟨bw,0,none⟩,ws.length,ws.length,wb,ws.length,wc,ws.map fun w=>.int .i64 w,rfl,rfl,by simp,by simp[Value.oneCell'],(IntsH.whole hv3).1,fun a ha hp=>?_,fun h=>(by cases h),fun a ha=>⟨bw,0,(List.replicate ws.length [Value.int .i64 0]).flatten,3,(by cases ha;rfl),(ins_ne _ _ hne).trans ((ins_ne _ _ hne).trans (ins_same _ _ _)),by simp,?_⟩⟩
 ·rw[Nat.min_self] at hp ⊢
  exact (IntsH.whole hv3).2 _ a ha hp
 have ec:(List.replicate ws.length [Value.int .i64 0]).flatten.take 0++(ws.map fun w=>Value.int .i64 w)++(List.replicate ws.length [Value.int .i64 0]).flatten.drop (0+min ws.length ws.length*1)=ws.map fun w=>Value.int .i64 w:=by
  rw[Nat.min_self,List.take_zero,List.nil_append,List.drop_of_length_le (by simp),List.append_nil]
 rw[ec]
 conv=>whnf
 refine⟨[.slice (some ⟨bw,0,none⟩) ws.length ws.length],⟨rfl,rfl,_,_,_,.inr ((ins_ne _ _ hne.symm).trans (ins_same _ _ _)),rfl⟩,?_⟩
 conv=>whnf
 refine W_pubAll fun H4 s5 hall=>?_
 have hbw4:=hall bw _ (ins_same _ _ _)
 have hbo4:=hall bo _ ((ins_ne _ _ hne.symm).trans (ins_same _ _ _))
 clear hall
 have hnn:∀ q:Nat,q < ws.length→ws.getD q 0=ws[q]!:=fun q hq=>by simp[List.getD_eq_getElem?_getD,hq]
 refine W_loop (pol:=polL) Γok (Nat × PH) (fun i=>i.1≤ws.length∧Sub H4 i.2∧∀ q,q < i.1→(ws.take q).contains (ws.getD q 0)=false) (fun i=>ws.length - i.1) (fun i=>[(36,.v (.int .i64 i.1))]) (fun _=>[]) (fun i=>i.2) (fun _=>emp) ⟨(0,H4),⟨by simp,Sub.refl _,by simp⟩,rfl,rfl,?_⟩ ?_
 ·conv=>whnf
  repeat (refine⟨rfl,?_⟩;conv=>whnf)
  exact trivial
 ·rintro ⟨i,H'⟩ ⟨k1,k2,k3⟩
  dsimp only at k1 k2 k3
  conv=>whnf
  refine if_intro (fun h=>?_) (fun h=>?_)
  ·have hi:i < ws.length:=by simpa using h
   have hg:ws.getD i 0=ws[i]:=by simp[List.getD_eq_getElem?_getD,hi]
   conv=>whnf
   refine dec_intro (by omega) ?_
   conv=>whnf
   refine⟨[.int .i64 ws[i]],⟨rfl,rfl,_,_,_,.inl (k2 _ _ hbw4),?_⟩,?_⟩
   ·simp[List.drop_eq_getElem_cons,hi]
   conv=>whnf
   refine⟨_,Rd.whole (k2 _ _ hbo4),?_⟩
   conv=>whnf
   refine dec_intro (by omega) ?_
   conv=>whnf
   rw[slice_pre]
   refine (c78 (ws.take i) ws[i] (by simp;omega) _ _ (ints_pre (k2 _ _ hbw4) (by omega))).val fun H5 s6=>?_
   conv=>whnf
   refine if_intro (fun hc=>?_) (fun hc=>?_)
   ·conv=>whnf
    have ht:twiceF ws=true:=List.any_eq_true.2 ⟨i,List.mem_range.2 hi,by rw[hg];exact hc⟩
    have e:onErr m ws n=5:=by unfold onErr;rw[if_neg (by simpa using he),if_neg (by rw[h12];simp),if_neg (by rw[h3];simp),if_pos ht]
    exact .inl ⟨by rw[e];decide,by rw[e]⟩
   ·conv=>whnf
    refine⟨(i+1,H5),⟨hi,k2.trans s6,fun q hq=>?_⟩,by dsimp only;omega,?_⟩
    ·rcases Nat.lt_or_ge q i with h | h
     ·exact k3 q h
     ·rw[show q=i by omega,hg];exact hc
    conv=>whnf
    refine⟨rfl,rfl,?_⟩
    conv=>whnf
    repeat (refine⟨rfl,?_⟩;conv=>whnf)
    refine⟨by show En.v (.int .i64 (IntKind.i64.wrap (i+1)))=_;rw[wrap_id (by omega) (by omega)];rfl,?_⟩
    conv=>whnf
    repeat (refine⟨rfl,?_⟩;conv=>whnf)
    exact trivial
  ·have hi:i=ws.length:=by simp at h;omega
   have ht:twiceF ws=false:=by
    unfold twiceF
    rw[List.any_eq_false]
    intro q hq
    rw[k3 q (by rw[hi];exact List.mem_range.1 hq)]
    simp
   conv=>whnf
   have e7:((m.length:Int) == (wideM m:Int))=false∨(m.length:Int) ≠ shlI 1 ws.length→onErr m ws n=7:=fun h=>by
    unfold onErr
    rw[if_neg (by simpa using he),if_neg (by rw[h12];simp),if_neg (by rw[h3];simp),if_neg (by rw[ht];simp),if_pos h]
   have hu4:=(((hu2.up s3).up s4).up s5).up k2
   refine W_draw (pol:=polL) Γok mixes [(0,.pendO),(1,.lock),(2,.pendO),(3,.pendO),(4,.pendO),(5,.pendO),(6,.pendO),(7,.pendO),(8,.pendO),(9,.pendO),(10,.pendO)] 67 (by kernel_rfl) rfl ?_
   conv=>whnf
   refine (c79 m rm.pos _ _ hu4).val fun H5 s6=>?_
   conv=>whnf
   refine if_intro (fun hq=>?_) (fun hq=>?_)
   ·conv=>whnf
    have e:=e7 (.inl (by simpa using hq))
    exact .inl ⟨by rw[e];decide,by rw[e]⟩
   ·have hq:((m.length:Int) == (wideM m:Int))=true:=by simpa using hq
    conv=>whnf
    refine⟨_,Rd.whole (s6 _ _ (k2 _ _ hbo4)),?_⟩
    conv=>whnf
    refine if_intro (fun hl=>?_) (fun hl=>?_)
    ·conv=>whnf
     have e:=e7 (.inr (by simpa[shlI] using hl))
     exact .inl ⟨by rw[e];decide,by rw[e]⟩
    have hl:(m.length:Int)=shlI 1 ws.length:=by simpa[shlI] using hl
    have hnot:onErr m ws n=0:=by
     unfold onErr
     rw[if_neg (by simpa using he),if_neg (by rw[h12];simp),if_neg (by rw[h3];simp),if_neg (by rw[ht];simp),if_neg]
     rw[hq]
     simp[hl]
    obtain⟨l1,l2⟩:=shl_len hl rm.pos rm.le
    obtain⟨N,rfl⟩:∃ N:Nat,n=(N:Int):=⟨n.toNat,by simp at h1;omega⟩
    have hN:N≤6:=by simp at h2;omega
    have hNp:2 ^ N < 1000000:=by
     have:2 ^ N≤2 ^ 6:=Nat.pow_le_pow_right (by decide) hN
     omega
    conv=>whnf
    intro bf hbf hOf
    conv=>whnf
    refine⟨_,_,ins_same _ _ _,by simp,?_⟩
    conv=>whnf
    refine W_draw (pol:=polL) Γok mixes [(0,.pendO),(1,.pendO),(2,.pendO),(3,.pendO),(4,.pendO),(5,.lock),(6,.pendO),(7,.pendO),(8,.pendO),(9,.pendO)] 67 (by kernel_rfl) rfl ?_
    conv=>whnf
    rw[shl1 (by omega)]
    have hw:∀ w∈ws,0≤w:=fun w hw=>by
     have:=List.all_eq_true.1 h3 w hw
     unfold inW at this
     simp at this
     exact this.1
    have hwm:wideM m=m.length:=by simp at hq;omega
    have hs7:=sub_ins H5 (.cells ⟨[.func (.func 211) #[] #[.pointer (some ⟨bf,0,none⟩)]]⟩ 161 (0,0)) hbf
    have bnd:∀ k:Nat,0≤(splitF ws ws.length k).1∧(splitF ws ws.length k).1 < m.length:=fun k=>by
     have:=splitF_bound ws ws.length k (by omega)
     refine⟨this.1,?_⟩
     have e:((m.length:Nat):Int)=2 ^ ws.length:=by rw[l2];simp
     rw[e]
     exact this.2
    have hc:=c81 (onAt m ws) (2 ^ N) (2 ^ N) hNp hNp (ins H5 bf (.cells ⟨[.func (.func 211) #[] #[.pointer (some ⟨bf,0,none⟩)]]⟩ 161 (0,0))) (.func 212) #[] #[.pointer (some ⟨bf,0,none⟩),.pointer (some ⟨bo,0,none⟩),.pointer (some ⟨bm,0,none⟩)] (fun i k hi hk=>⟨212,[],[_,_,_],rfl,fun H' hs'=>
     c82 m rm ws i k ws.length bw bf bo bm _ _ _ _ _ H' _ (((hu4.up s6).up hs7).up hs') (Nat.le_refl _) hws hw (bnd i) (by rw[hwm];exact bnd k) (hs' _ _ (hs7 _ _ (s6 _ _ (k2 _ _ hbw4)))) (hs' _ _ (ins_same _ _ _)) (hs' _ _ (hs7 _ _ (s6 _ _ (k2 _ _ hbo4)))) (hs' _ _ (hs7 _ _ (s6 _ _ (k2 _ _ (s5 _ _ (s4 _ _ (s3 _ _ (s2 _ _ (ins_same _ _ _)))))))))⟩)
    refine Cl.pub (ins_same _ _ _) (fun _=>?_) hc.ent
    rw[show del (ins (ins emp bf _) bf _) bf=emp by funext n;unfold del ins emp;by_cases e:n=bf<;>simp[e]]
    refine hc.mono fun r H6 M6 _ hr=>?_
    rcases hr with⟨g1,rfl⟩ | ⟨g1,u,rfl,g2⟩
    ·conv=>whnf
     exact .inr ⟨hnot,.inl ⟨g1,rfl⟩⟩
    ·conv=>whnf
     exact .inr ⟨hnot,.inr ⟨g1,u,rfl,g2⟩⟩
theorem ints_lit {H : PH} {b:Nat} {l:List Int} {n:Nat} (hb:H b=some (.cells ⟨l.map fun x=>.int .i64 x⟩ 3 (0,0))) (hn:n=l.length:=by rfl):IntsH H (.slice (some ⟨b,0,none⟩) n n) l:=by
 subst hn
 exact⟨_,_,rfl,.inr ⟨b,0,_,_,_,rfl,hb,List.take_of_length_le (by simp)⟩⟩
theorem c52c (l m : List (List (P4 × Int))) (h:eqM l m=true) (hlen:l.length < 9223372036854775808) (hrow:∀ r∈l,r.length < 9223372036854775808) (H:PH) (u v:Value) (hu:MatH H u l) (hv:MatH H v m):Cl Tryz.prog 56 [u,v] H emp fun r _ _=>r=.bool true:=
 (c52 l m H u v hu hv hlen hrow).mono fun r _ _ _ hr=>by rw[hr,h]
def fitsR (p : P4) (k:Int):(P4 × Int) × Int:=if checkR (formR p k).1 (formR p k).2 ≠ 0 then ((P4.zero,0),8) else (formR p k,0)
theorem c159 (p : P4) (k:Int) (h1:-9223372036854775808≤k) (h2:k < 9223372036854775808) (H:PH):Cl Tryz.prog 151 [p.num k] H emp fun v _ _=>v=ne (fitsR p k):=by
 refine Cl_of (pol:=polL) Γok Tryz.func151 (by kernel_rfl) rfl ?_
 conv=>whnf
 repeat (intro _;conv=>whnf)
 refine (c72 p k h1 h2 _).val fun H1 s1=>?_
 conv=>whnf
 refine (c108 (formR p k).1 (formR p k).2 _).val fun H2 s2=>?_
 conv=>whnf
 unfold fitsR
 refine if_intro (fun he=>?_) (fun he=>?_)
 ·conv=>whnf
  rw[if_pos (by simpa using he)]
  rfl
 ·conv=>whnf
  rw[if_neg (by simpa using he)]
  rfl
def productR (p q : P4):P4:=
 ⟨wr (wr (wr (wr (p.a*q.a) - wr (p.b*q.d)) - wr (p.c*q.c)) - wr (p.d*q.b)),
  wr (wr (wr (wr (p.a*q.b)+wr (p.b*q.a)) - wr (p.c*q.d)) - wr (p.d*q.c)),
  wr (wr (wr (wr (p.a*q.c)+wr (p.b*q.b))+wr (p.c*q.a)) - wr (p.d*q.d)),
  wr (wr (wr (wr (p.a*q.d)+wr (p.b*q.c))+wr (p.c*q.b))+wr (p.d*q.a))⟩
theorem c160 (x y : P4 × Int) (H:PH):Cl Tryz.prog 204 [nv x,nv y] H emp fun v _ _=>v=(productR x.1 y.1).num (wr (x.2+y.2)):=by
 refine Cl_of (pol:=polL) Γok Tryz.func204 (by kernel_rfl) rfl ?_
 conv=>whnf
 repeat (intro _;conv=>whnf)
 rfl
def MulR (x y : P4 × Int):(P4 × Int) × Int:=if errsR [x,y] ≠ 0 then ((P4.zero,0),errsR [x,y]) else fitsR (productR x.1 y.1) (wr (x.2+y.2))
theorem c98 (x y : P4 × Int) (H:PH):Cl Tryz.prog 173 [nv x,nv y] H emp fun v _ _=>v=ne (MulR x y):=by
 refine Cl_of (pol:=fun | 9=>.imm | _=>.loc) Γok Tryz.func173 (by kernel_rfl) rfl ?_
 conv=>whnf
 iterate 3 (intro _;conv=>whnf)
 intro b hb hO
 conv=>whnf
 refine (c94 [x,y] _ _ (pair_num (ins_same _ _ _)) (by simp)).val fun H1 hs1=>?_
 conv=>whnf
 unfold MulR
 refine if_intro (fun he=>?_) (fun he=>?_)
 ·conv=>whnf
  rw[if_pos (show errsR [x,y] ≠ 0 by simpa using he)]
  rfl
 ·rw[if_neg (show ¬ errsR [x,y] ≠ 0 by simpa using he)]
  conv=>whnf
  refine (c160 x y _).val fun H2 hs2=>?_
  conv=>whnf
  refine (c159 (productR x.1 y.1) (wr (x.2+y.2)) (wr_bounds _).1 (wr_bounds _).2 _).val fun H3 hs3=>?_
  conv=>whnf
  rfl
theorem c99 (n : Nat) (hn:n < 8) (H:PH):Cl Tryz.prog 207 [.int .i64 n] H emp fun v _ _=>v=nv (OmegaF n):=by
 refine Cl_of (pol:=polL) Γok Tryz.func207 (by kernel_rfl) rfl ?_
 obtain rfl | rfl | rfl | rfl | rfl | rfl | rfl | rfl:n=0∨n=1∨n=2∨n=3∨n=4∨n=5∨n=6∨n=7:=by omega
 all_goals conv=>whnf
 all_goals repeat (intro _;conv=>whnf)
 all_goals refine W_rounds (pol:=polL) Γok 9 ?_
 all_goals conv=>whnf
 all_goals rfl
theorem c100 (x y : P4 × Int) (hx:-9223372036854775808≤x.2∧x.2 < 9223372036854775808) (hy:-9223372036854775808≤y.2∧y.2 < 9223372036854775808) (H:PH):Cl Tryz.prog 126 [nv x,nv y] H emp fun v _ _=>v=.bool (eqN (formR x.1 x.2) (formR y.1 y.2)):=by
 refine Cl_of (pol:=polL) Γok Tryz.func126 (by kernel_rfl) rfl ?_
 conv=>whnf
 repeat (intro _;conv=>whnf)
 refine W_draw (pol:=polL) Γok mixes [(0,.pendO),(2,.pend),(1,.lock),(3,.lock),(4,.pendO),(5,.pendO)] 10 (by kernel_rfl) rfl ?_
 conv=>whnf
 refine (c72 x.1 x.2 hx.1 hx.2 _).val fun H1 s1=>?_
 conv=>whnf
 refine (c72 y.1 y.2 hy.1 hy.2 _).val fun H2 s2=>?_
 conv=>whnf
 rfl
def bothR (m n : List (List (P4 × Int))):Int:=if checkMR m ≠ 0 then checkMR m else checkMR n
theorem c95 (m n : List (List (P4 × Int))) (H:PH) (u v:Value) (hu:MatH H u m) (hv:MatH H v n):Cl Tryz.prog 121 [u,v] H emp fun r _ _=>r=.int .i64 (bothR m n):=by
 refine Cl_of (pol:=polL) Γok Tryz.func121 (by kernel_rfl) rfl ?_
 conv=>whnf
 refine (c30 m _ _ hu).val fun H1 s1=>?_
 conv=>whnf
 unfold bothR
 refine if_intro (fun he=>?_) (fun he=>?_)
 ·conv=>whnf
  rw[if_pos (show checkMR m ≠ 0 by simpa using he)]
 ·rw[if_neg (show ¬ checkMR m ≠ 0 by simpa using he)]
  conv=>whnf
  refine (c30 n _ _ (hv.up s1)).val fun H2 s2=>?_
  conv=>whnf
theorem bothR_eq (m n : List (List (P4 × Int))):bothR m n=errsM [m,n]:=by
 unfold bothR errsM
 simp only[List.map_cons,List.map_nil,firstErr,checkMF_checkMR]
 by_cases h:checkMR m=0
 ·rw[if_neg (by simpa using h),if_pos h]
  split<;>simp_all
 ·rw[if_pos h,if_neg h]
theorem c97 (m n : List (List (P4 × Int))) (hm:0 < m.length) (hn:0 < n.length) (H:PH) (u v:Value) (hu:MatH H u m) (hv:MatH H v n):Cl Tryz.prog 128 [u,v] H emp fun r _ _=>r=.bool (alikeF m n):=by
 obtain⟨base,cap,rfl⟩:=hu.sl
 obtain⟨base',cap',rfl⟩:=hv.sl
 obtain⟨bu,ou,ru,cu,rfl,hru,_⟩:=hu.rd (O:=emp) hm
 obtain⟨bv,ov,rv,cv,rfl,hrv,_⟩:=hv.rd (O:=emp) hn
 rw[← wideM_get hm] at hru
 rw[← wideM_get hn] at hrv
 refine Cl_of (pol:=polL) Γok Tryz.func128 (by kernel_rfl) rfl ?_
 conv=>whnf
 refine W_draw (pol:=polL) Γok mixes [(0,.pendO),(1,.pendO),(2,.pendO),(3,.pendO),(4,.pendO),(5,.pendO),(6,.pendO),(7,.pendO),(8,.pendO),(9,.pendO),(10,.pendO),(11,.pendO),(12,.pendO),(13,.pendO),(14,.pendO),(15,.pendO),(16,.pendO)] 21 (by kernel_rfl) rfl ?_
 conv=>whnf
 unfold alikeF
 refine if_intro (fun he=>?_) (fun he=>?_)
 ·conv=>whnf
  refine dec_intro (by omega) ?_
  conv=>whnf
  refine⟨_,hru,?_⟩
  conv=>whnf
  refine dec_intro (by omega) ?_
  conv=>whnf
  refine⟨_,hrv,?_⟩
  conv=>whnf
  rw[he]
  rfl
 ·conv=>whnf
  rw[he]
  rfl
def eqAt (m n : List (List (P4 × Int))) (t:Nat):Bool:=
 eqN (formR (entry m (t / wideM m) (t % wideM m)).1 (entry m (t / wideM m) (t % wideM m)).2) (formR (entry n (t / wideM m) (t % wideM m)).1 (entry n (t / wideM m) (t % wideM m)).2)
def equalR (m n : List (List (P4 × Int))):Bool:=alikeF m n && (List.range (m.length*wideM m)).all (eqAt m n)
theorem right_k {m : List (List (P4 × Int))} (h:checkMF m=0) {i k:Nat} (hi:i < m.length) (hk:k < m[i].length):-9223372036854775808≤(m[i][k]).2∧(m[i][k]).2 < 9223372036854775808:=by
 rw[checkMF_checkMR] at h
 obtain⟨_,_,_,z4⟩:=checkMR_zero h
 have:=checkR_zero (z4 _ (List.getElem_mem hi) _ (List.getElem_mem hk))
 omega
theorem alike_iff {m n : List (List (P4 × Int))} (h:alikeF m n=true):m.length=n.length∧wideM m=wideM n:=by
 unfold alikeF at h
 simp at h
 omega
theorem divmod {i k w : Nat} (hk:k < w):(i*w+k) / w=i∧(i*w+k) % w=k:=by
 have hw:0 < w:=by omega
 rw[Nat.mul_comm,Nat.mul_add_div hw,Nat.div_eq_of_lt hk,Nat.mul_add_mod,Nat.mod_eq_of_lt hk]
 exact⟨rfl,rfl⟩
theorem c96 (m n : List (List (P4 × Int))) (hm:checkMF m=0) (hn:checkMF n=0) (H:PH) (u v:Value) (hu:MatH H u m) (hv:MatH H v n):Cl Tryz.prog 108 [u,v] H emp fun r _ _=>r=.bool (equalR m n):=by
 obtain⟨base,cap,rfl⟩:=hu.sl
 obtain⟨base',cap',rfl⟩:=hv.sl
 have rm:=right_of hm
 have rn:=right_of hn
 refine Cl_of (pol:=polL) Γok Tryz.func108 (by kernel_rfl) rfl ?_
 conv=>whnf
 refine (c97 m n rm.pos rn.pos _ _ _ hu hv).val fun H1 s1=>?_
 conv=>whnf
 unfold equalR
 refine if_intro (fun ha=>?_) (fun ha=>?_)
 ·conv=>whnf
  rw[show alikeF m n=false by simpa using ha]
  rfl
 have ha:alikeF m n=true:=by simpa using ha
 obtain⟨e1,e2⟩:=alike_iff ha
 rw[ha,Bool.true_and]
 have hle:=rm.le
 have hwle:=rm.wle
 conv=>whnf
 refine W_loop (pol:=polL) Γok (Nat × PH) (fun i=>i.1≤m.length∧Sub H1 i.2∧∀ t,t < i.1*wideM m→eqAt m n t=true) (fun i=>m.length - i.1) (fun i=>[(5,.v (.int .i64 i.1))]) (fun _=>[]) (fun i=>i.2) (fun _=>emp) ⟨(0,H1),⟨by simp,Sub.refl _,by simp⟩,rfl,rfl,?_⟩ ?_
 ·conv=>whnf
  repeat (refine⟨rfl,?_⟩;conv=>whnf)
  exact trivial
 ·rintro ⟨i,H'⟩ ⟨h1,h2,h3⟩
  dsimp only at h1 h2 h3
  conv=>whnf
  refine if_intro (fun h=>?_) (fun h=>?_)
  ·have hi:i < m.length:=by simpa using h
   have hi':i < n.length:=by omega
   have r1:=rm.row _ (List.getElem_mem hi)
   have r2:=rn.row _ (List.getElem_mem hi')
   conv=>whnf
   refine W_loopX (pol:=polL) Γok (Nat × PH) (fun k=>k.1≤wideM m∧Sub H1 k.2∧∀ t,t < i*wideM m+k.1→eqAt m n t=true) (fun k=>wideM m - k.1) (fun e k=>e=.exit 2∧Sub H1 k.2∧∀ t,t < (i+1)*wideM m→eqAt m n t=true) (fun k=>[(6,.v (.int .i64 k.1))]) (fun _=>[]) (fun k=>k.2) (fun _=>emp) ⟨(0,H'),⟨by simp,h2,by simpa using h3⟩,rfl,rfl,?_⟩ ?_ ?_
   ·conv=>whnf
    repeat (refine⟨rfl,?_⟩;conv=>whnf)
    exact trivial
   ·rintro ⟨k,H2⟩ ⟨k1,k2,k3⟩
    dsimp only at k1 k2 k3
    have hu2:=(hu.up s1).up k2
    have hv2:=(hv.up s1).up k2
    obtain⟨bu,ou,ru,cu,hbu,hru,_⟩:=hu2.rd (O:=emp) hi
    subst hbu
    conv=>whnf
    refine dec_intro (by omega) ?_
    conv=>whnf
    refine⟨_,hru,?_⟩
    conv=>whnf
    refine if_intro (fun h=>?_) (fun h=>?_)
    ·have hk:k < wideM m:=by simp at h;omega
     have hkm:k < m[i].length:=by omega
     have hkn:k < n[i].length:=by omega
     obtain⟨b0,off,b',off',cu',hb0,q1,q2⟩:=hu2.row' hi hkm
     obtain⟨b1,off1,b1',off1',cv',hb1,q3,q4⟩:=hv2.row' hi' hkn
     cases hb0
     subst hb1
     have hdm:=divmod (i:=i) hk
     have he:eqAt m n (i*wideM m+k)=eqN (formR m[i][k].1 m[i][k].2) (formR n[i][k].1 n[i][k].2):=by
      unfold eqAt
      rw[hdm.1,hdm.2,entry_get hi hkm,entry_get hi' hkn]
     conv=>whnf
     refine W_draw (pol:=polL) Γok mixes [(0,.pendO),(1,.pendO),(2,.pendO),(3,.pendO),(4,.pendO),(5,.pendO),(6,.pendO),(7,.pendO),(8,.pendO),(9,.pendO),(10,.pendO),(11,.pendO),(12,.pendO),(13,.pendO),(14,.lock),(15,.pendO)] 42 (by kernel_rfl) rfl ?_
     conv=>whnf
     refine dec_intro (by omega) ?_
     conv=>whnf
     refine⟨_,q1 _,?_⟩
     conv=>whnf
     refine dec_intro (by omega) ?_
     conv=>whnf
     refine⟨_,q2 _,?_⟩
     conv=>whnf
     refine dec_intro (by omega) ?_
     conv=>whnf
     refine⟨_,q3 _,?_⟩
     conv=>whnf
     refine dec_intro (by omega) ?_
     conv=>whnf
     refine⟨_,q4 _,?_⟩
     conv=>whnf
     refine (c100 m[i][k] n[i][k] (right_k hm hi hkm) (right_k hn hi' hkn) _).val fun H3 s3=>?_
     conv=>whnf
     refine if_intro (fun hq=>?_) (fun hq=>?_)
     ·conv=>whnf
      refine .inl ?_
      conv=>whnf
      have:(List.range (m.length*wideM m)).all (eqAt m n)=false:=by
       rw[List.all_eq_false]
       refine⟨i*wideM m+k,List.mem_range.2 ?_,by rw[he];simpa using hq⟩
       have:(i+1)*wideM m≤m.length*wideM m:=Nat.mul_le_mul_right _ hi
       rw[Nat.succ_mul] at this
       omega
      rw[this]
     ·conv=>whnf
      refine⟨(k+1,H3),⟨hk,k2.trans s3,fun t ht=>?_⟩,by dsimp only;omega,?_⟩
      ·rcases Nat.lt_or_ge t (i*wideM m+k) with h | h
       ·exact k3 t h
       ·rw[show t=i*wideM m+k by omega,he];simpa using hq
      conv=>whnf
      refine⟨rfl,rfl,?_⟩
      conv=>whnf
      repeat (refine⟨rfl,?_⟩;conv=>whnf)
      refine⟨by show En.v (.int .i64 (IntKind.i64.wrap (k+1)))=_;rw[wrap_id (by omega) (by omega)];rfl,?_⟩
      conv=>whnf
      repeat (refine⟨rfl,?_⟩;conv=>whnf)
      exact trivial
    ·have hk:k=wideM m:=by simp at h;omega
     conv=>whnf
     refine .inr ⟨(k,H2),⟨rfl,k2,fun t ht=>k3 t (by rw[Nat.succ_mul] at ht;omega)⟩,?_⟩
     conv=>whnf
     refine⟨rfl,rfl,?_⟩
     conv=>whnf
     repeat (refine⟨rfl,?_⟩;conv=>whnf)
     exact trivial
   ·rintro e ⟨k,H2⟩ ⟨rfl,k2,k3⟩
    conv=>whnf
    refine⟨(i+1,H2),⟨hi,k2,k3⟩,by dsimp only;omega,?_⟩
    conv=>whnf
    refine⟨rfl,rfl,?_⟩
    conv=>whnf
    repeat (refine⟨rfl,?_⟩;conv=>whnf)
    refine⟨by show En.v (.int .i64 (IntKind.i64.wrap (i+1)))=_;rw[wrap_id (by omega) (by omega)];rfl,?_⟩
    conv=>whnf
    repeat (refine⟨rfl,?_⟩;conv=>whnf)
    exact trivial
  ·conv=>whnf
   have hi:i=m.length:=by simp at h;omega
   subst hi
   rw[show (List.range (m.length*wideM m)).all (eqAt m n)=true from List.all_eq_true.2 fun t ht=>h3 t (List.mem_range.1 ht)]
def samePl (m n : List (List (P4 × Int))) (t:Nat):Bool:=
 eqN (LeastF (entry m (t / wideM m) (t % wideM m)).1 (entry m (t / wideM m) (t % wideM m)).2).1 (LeastF (entry n (t / wideM m) (t % wideM m)).1 (entry n (t / wideM m) (t % wideM m)).2).1
theorem c103 (m n : List (List (P4 × Int))) (rm:Right m) (rn:Right n) (ha:alikeF m n=true) (H:PH) (u v:Value) (hu:MatH H u m) (hv:MatH H v n):Cl Tryz.prog 172 [u,v] H emp fun r _ _=>r=.bool ((List.range (m.length*wideM m)).all (samePl m n)):=by
 obtain⟨e1,e2⟩:=alike_iff ha
 obtain⟨base,cap,rfl⟩:=hu.sl
 obtain⟨base',cap',rfl⟩:=hv.sl
 refine Cl_of (pol:=polL) Γok Tryz.func172 (by kernel_rfl) rfl ?_
 conv=>whnf
 repeat (intro _;conv=>whnf)
 refine (c92 (m.map List.length) _ _ (by simp;have:=rm.le;omega) (fun n hn=>by obtain⟨r,hr,rfl⟩:=List.mem_map.1 hn;have:=rm.row r hr;have:=rm.wle;omega) hu.shape).use fun it H1 s1 hit=>?_
 obtain⟨_,hit⟩:=hit
 rw[rm.lens] at hit
 conv=>whnf
 refine W_range (pol:=polL) Γok (placesN 0 (List.replicate m.length (wideM m))) hit Unit (fun t _ H6=>Sub H1 H6∧∀ q,q < t→samePl m n q=true) (fun e _ _=>e=.ret∧(List.range (m.length*wideM m)).all (samePl m n)=false) (fun _=>[]) (fun _=>emp) (fun _ _ _ _ hs h=>⟨h.1.trans hs,h.2⟩) (fun _ _ _ _ hs h=>h) ⟨(),⟨Sub.refl _,by simp⟩,rfl,?_⟩ ?_ ?_ ?_
 ·conv=>whnf
 ·rintro t x hx ⟨⟩ H6 s6 ⟨t1,t2⟩ l o o' hl
  have hlt:t < m.length*wideM m:=by
   rw[← placesN_uniform_length m.length (wideM m)]
   exact (List.getElem?_eq_some_iff.1 hx).1
  obtain⟨g1,g2,g3⟩:=placesN_uniform hlt
  rw[g3] at hx
  cases hx
  have r1:=rm.row _ (List.getElem_mem g1)
  have g1':t / wideM m < n.length:=by omega
  have r2:=rn.row _ (List.getElem_mem g1')
  have hs:samePl m n t=eqN (LeastF (m[t / wideM m][t % wideM m]'(by omega)).1 (m[t / wideM m][t % wideM m]'(by omega)).2).1 (LeastF (n[t / wideM m][t % wideM m]'(by omega)).1 (n[t / wideM m][t % wideM m]'(by omega)).2).1:=by
   unfold samePl
   rw[entry_get g1 (by omega),entry_get g1' (by omega)]
  conv=>whnf
  intro b9
  conv=>whnf
  refine⟨rfl,?_⟩
  conv=>whnf
  refine⟨emp,rfl,?_⟩
  conv=>whnf
  refine (c84 m _ _ g1 (by omega) _ _ ((hu.up s1).up t1)).val fun H7 s7=>?_
  conv=>whnf
  refine (c83 (m[t / wideM m][t % wideM m]'(by omega)).1 (m[t / wideM m][t % wideM m]'(by omega)).2 _).val fun H8 s8=>?_
  conv=>whnf
  intro b10
  conv=>whnf
  refine (c84 n _ _ g1' (by omega) _ _ ((((hv.up s1).up t1).up s7).up s8)).val fun H9 s9=>?_
  conv=>whnf
  refine (c83 (n[t / wideM m][t % wideM m]'(by omega)).1 (n[t / wideM m][t % wideM m]'(by omega)).2 _).val fun H10 s10=>?_
  conv=>whnf
  intro b12
  conv=>whnf
  refine if_intro (fun hq=>?_) (fun hq=>?_)
  ·conv=>whnf
   have hq:samePl m n t=false:=by rw[hs];exact Bool.not_eq_true' _ |>.mp hq
   refine⟨(),.inr ⟨⟨rfl,?_⟩,rfl⟩,rfl,rfl,?_⟩
   ·rw[List.all_eq_false]
    exact⟨t,List.mem_range.2 hlt,by rw[hq];simp⟩
   conv=>whnf
   repeat (refine⟨rfl,?_⟩;conv=>whnf)
   exact trivial
  ·conv=>whnf
   have hq:samePl m n t=true:=by rw[hs];exact Bool.not_eq_false' .. |>.mp hq
   refine⟨(),.inl ⟨rfl,t1.trans (s7.trans (s8.trans (s9.trans s10))),fun q hqt=>?_⟩,rfl,rfl,?_⟩
   ·rcases Nat.lt_or_ge q t with h | h
    ·exact t2 q h
    ·rw[show q=t by omega];exact hq
   conv=>whnf
   repeat (refine⟨rfl,?_⟩;conv=>whnf)
   exact trivial
 ·rintro ⟨⟩ H6 s6 ⟨t1,t2⟩
  conv=>whnf
  rw[placesN_uniform_length] at t2
  rw[show (List.range (m.length*wideM m)).all (samePl m n)=true from List.all_eq_true.2 fun q hq=>t2 q (List.mem_range.1 hq)]
 ·rintro e ⟨⟩ H6 s6 ⟨rfl,h⟩
  conv=>whnf
  rw[h]
def sameF (m n : List (List (P4 × Int))):Bool:=alikeF m n && (List.range (m.length*wideM m)).all (samePl m n)
theorem c33 (m n : List (List (P4 × Int))) (hlm:m.length < 1000000) (hln:n.length < 1000000) (H:PH) (u v:Value) (hu:MatH H u m) (hv:MatH H v n):Cl Tryz.prog 114 [u,v] H emp fun r _ _=>r=.tuple #[.bool (if errsM [m,n]=0 then sameF m n else false),.int .i64 (errsM [m,n])]:=by
 obtain⟨base,cap,rfl⟩:=hu.sl
 obtain⟨base',cap',rfl⟩:=hv.sl
 refine Cl_of (pol:=fun | 9=>.imm | _=>.loc) Γok Tryz.func114 (by kernel_rfl) rfl ?_
 conv=>whnf
 intro b hb _
 conv=>whnf
 have s1:=sub_ins H (.cells ⟨[.slice base m.length cap,.slice base' n.length cap']⟩ 23 (0,0)) hb
 refine (c101 [m,n] (by simp) (by simp;omega) _ _ (pair_mats (ins_same _ _ _) (hu.up s1) (hv.up s1))).val fun H2 s2=>?_
 conv=>whnf
 refine if_intro (fun he=>?_) (fun he=>?_)
 ·conv=>whnf
  rw[if_neg (show ¬ errsM [m,n]=0 by simpa using he)]
 ·have he:errsM [m,n]=0:=by simpa using he
  obtain⟨rm,rn⟩:=rights_of he
  have hu2:=(hu.up s1).up s2
  have hv2:=(hv.up s1).up s2
  rw[he,if_pos rfl]
  conv=>whnf
  refine (c102 m n rm.pos rn.pos _ _ _ hu2 hv2).val fun H3 s3=>?_
  conv=>whnf
  unfold sameF
  refine if_intro (fun ha=>?_) (fun ha=>?_)
  ·conv=>whnf
   refine (c103 m n rm rn ha _ _ _ (hu2.up s3) (hv2.up s3)).val fun H4 s4=>?_
   conv=>whnf
   rw[ha,Bool.true_and]
  ·conv=>whnf
   rw[show alikeF m n=false from ha]
   rfl
theorem c136 (vs : List Value) (q:Nat→Bool) (hlen:vs.length < 1000000) (H:PH) (v f:Value) (hv:SlH H v vs.length vs) (hf:∀ (i:Nat) x,vs[i]?=some x→Does Tryz.prog H f [x] fun r _=>r=.bool (q i)):Cl Tryz.prog 116 [v,f] H emp fun r _ _=>∃ i:Int,r=.int .i64 i∧(decide (i ≥ 0)=(List.range vs.length).any q):=by
 obtain⟨base,cap,rfl,_⟩:=id hv
 refine Cl_of (pol:=polL) Γok Tryz.func116 (by kernel_rfl) rfl ?_
 conv=>whnf
 refine W_loop (pol:=polL) Γok (Nat × PH) (fun i=>i.1≤vs.length∧Sub H i.2∧∀ t,t < i.1→q t=false) (fun i=>vs.length - i.1) (fun i=>[(8,.v (.int .i64 i.1))]) (fun _=>[]) (fun i=>i.2) (fun _=>emp) ⟨(0,H),⟨by simp,Sub.refl _,by simp⟩,rfl,rfl,?_⟩ ?_
 ·conv=>whnf
  repeat (refine⟨rfl,?_⟩;conv=>whnf)
  exact trivial
 ·rintro ⟨i,H'⟩ ⟨h1,h2,h3⟩
  dsimp only at h1 h2 h3
  conv=>whnf
  refine if_intro (fun h=>?_) (fun h=>?_)
  ·have hi:i < vs.length:=by simpa using h
   obtain⟨b,off,rfl,hrd⟩:=SlH.one (O:=emp) (hv.up h2) rfl hi
   conv=>whnf
   refine dec_intro (by omega) ?_
   conv=>whnf
   refine⟨_,hrd,?_⟩
   conv=>whnf
   refine ((hf i _ (List.getElem?_eq_getElem hi)).up h2).use fun r H2 s2 hr=>?_
   subst hr
   conv=>whnf
   refine if_intro (fun he=>?_) (fun he=>?_)
   ·conv=>whnf
    refine⟨i,rfl,?_⟩
    rw[show (List.range vs.length).any q=true from List.any_eq_true.2 ⟨i,List.mem_range.2 hi,he⟩]
    simp
   ·conv=>whnf
    refine⟨(i+1,H2),⟨hi,h2.trans s2,fun t ht=>?_⟩,by dsimp only;omega,?_⟩
    ·rcases Nat.lt_or_ge t i with h | h
     ·exact h3 t h
     ·rw[show t=i by omega];exact he
    ·conv=>whnf
     refine⟨rfl,rfl,?_⟩
     conv=>whnf
     repeat (refine⟨rfl,?_⟩;conv=>whnf)
     refine⟨by show En.v (.int .i64 (IntKind.i64.wrap (i+1)))=_;rw[wrap_id (by omega) (by omega)];rfl,?_⟩
     conv=>whnf
     repeat (refine⟨rfl,?_⟩;conv=>whnf)
     exact trivial
  ·conv=>whnf
   have hi:i=vs.length:=by simp at h;omega
   subst hi
   refine⟨_,rfl,?_⟩
   rw[show (List.range vs.length).any q=false from List.any_eq_false.2 fun t ht=>by rw[h3 t (List.mem_range.1 ht)];simp]
   decide
theorem c66 (vs : List Value) (q:Nat→Bool) (hlen:vs.length < 1000000) (H:PH) (v f:Value) (hv:SlH H v vs.length vs) (hf:∀ (i:Nat) x,vs[i]?=some x→Does Tryz.prog H f [x] fun r _=>r=.bool (q i)):Cl Tryz.prog 54 [v,f] H emp fun r _ _=>r=.bool ((List.range vs.length).any q):=by
 refine Cl_of (pol:=polL) Γok Tryz.func54 (by kernel_rfl) rfl ?_
 conv=>whnf
 refine (c136 vs q hlen _ _ _ hv hf).use fun r H1 s1 hr=>?_
 obtain⟨_,i,rfl,hi⟩:=hr
 conv=>whnf
 rw[hi]
theorem isZero_iff {p : P4}:p.isZero=true ↔ p.a=0∧p.b=0∧p.c=0∧p.d=0:=by
 unfold P4.isZero
 simp
theorem halved_zero {p : P4} (h:p.within 1073741824) (he:evenR p=true) (hz:(halvedR p).isZero=true):p.isZero=true:=by
 obtain⟨h1,h2,h3,h4⟩:=h
 obtain⟨e1,e2⟩:=evenR_iff.1 he
 have w:∀ x:Int,-4294967296≤x→x≤4294967296→wr x=x:=fun x a b=>wrap_id (by omega) (by omega)
 rw[isZero_iff] at hz ⊢
 unfold halvedR at hz
 simp only[shr1_div,low_mod] at hz
 rw[w (p.b / 2 - p.d / 2) (by omega) (by omega),w (p.a / 2+p.c / 2) (by omega) (by omega),w (p.b / 2+p.d / 2) (by omega) (by omega),w (p.c / 2 - p.a / 2) (by omega) (by omega),w _ (by omega) (by omega),w _ (by omega) (by omega)] at hz
 omega
theorem lowerR_end : ∀ (k:Nat) (p:P4),p.within 1073741824→p.isZero=false→((lowerR k p).2=0∨evenR (lowerR k p).1=false)∧(lowerR k p).1.isZero=false∧(lowerR k p).1.within 1073741824∧(lowerR k p).2≤k
 | 0,p,h,hz=>⟨.inl rfl,hz,h,Nat.le_refl _⟩
 | k+1,p,h,hz=>by
  unfold lowerR
  cases e:evenR p with
  | false=>exact⟨.inr (by simpa using e),by simpa using hz,by simpa using h,by simp⟩
  | true=>
   obtain⟨h1,h2⟩:=half_eq h e
   rw[h1] at h2
   have hz':(halvedR p).isZero=false:=by
    cases e':(halvedR p).isZero with
    | false=>rfl
    | true=>rw[halved_zero h e e'] at hz;cases hz
   obtain⟨a,b,c,d⟩:=lowerR_end k (halvedR p) h2 hz'
   simp only[if_true]
   exact⟨a,b,c,by omega⟩
theorem lowerR_stop {j : Nat} {q:P4} (h:j=0∨evenR q=false):lowerR j q=(q,j):=by
 cases j with
 | zero=>rfl
 | succ j=>
  have he:evenR q=false:=by
   rcases h with h | h
   ·cases h
   ·exact h
  unfold lowerR
  rw[he]
  rfl
theorem formR_right {p : P4} {k:Int} (h:checkF p k=0):checkF (formR p k).1 (formR p k).2=0∧formR (formR p k).1 (formR p k).2=formR p k:=by
 obtain⟨k1,k2,hp⟩:=checkF_range h
 have hw:=(all_iff (by decide) (by decide)).1 hp
 have mk:∀ (q:P4) (j:Int),0≤j→j≤60→q.within 1073741824→checkF q j=0:=fun q j a b c=>by
  unfold checkF
  rw[(all_iff (by decide) (by decide)).2 c]
  simp
  omega
 cases hz:p.isZero with
 | true=>
  have e:formR p k=(P4.zero,0):=by unfold formR;rw[hz];rfl
  rw[e]
  exact⟨by kernel_rfl,by kernel_rfl⟩
 | false=>
  by_cases h0:0 < k
  ·have e:formR p k=((lowerR k.toNat p).1,((lowerR k.toNat p).2:Int)):=by
    unfold formR;rw[hz,if_neg (by simp),if_pos h0]
   obtain⟨a,b,c,d⟩:=lowerR_end k.toNat p hw hz
   rw[e]
   refine⟨mk _ _ (by dsimp only;omega) (by dsimp only;omega) c,?_⟩
   unfold formR
   dsimp only
   rw[b]
   simp only[Bool.false_eq_true,if_false]
   by_cases hj:(lowerR k.toNat p).2=0
   ·rw[hj];rfl
   ·rw[if_pos (by omega),Int.toNat_natCast,lowerR_stop a]
  ·have e:formR p k=(p,k):=by
    unfold formR;rw[hz,if_neg (by simp),if_neg h0]
   rw[e]
   exact⟨h,e⟩
theorem errs_same (l : List (P4 × Int)):errsR l=errsF l:=by
 unfold errsR errsF
 simp only[checkF_checkR]
theorem entry_right {m : List (List (P4 × Int))} (h:checkMF m=0) {i k:Nat} (hi:i < m.length) (hk:k < wideM m):checkF (entry m i k).1 (entry m i k).2=0:=by
 have rm:=right_of h
 have hr:=rm.row _ (List.getElem_mem hi)
 rw[checkMF_checkMR] at h
 obtain⟨_,_,_,z4⟩:=checkMR_zero h
 rw[entry_get hi (by omega),checkF_checkR]
 exact z4 _ (List.getElem_mem hi) _ (List.getElem_mem _)
theorem all_congr {n : Nat} {p q:Nat→Bool} (h:∀ t,t < n→p t=q t):(List.range n).all p=(List.range n).all q:=by
 rw[Bool.eq_iff_iff,List.all_eq_true,List.all_eq_true]
 constructor
 ·intro hp t ht;rw[← h t (List.mem_range.1 ht)];exact hp t ht
 ·intro hp t ht;rw[h t (List.mem_range.1 ht)];exact hp t ht
theorem same_eq {m n : List (List (P4 × Int))} (he:errsM [m,n]=0):sameF m n=equalR m n:=by
 have hz:=firstErr_zero he
 have hm:checkMF m=0:=hz _ (by simp)
 have hn:checkMF n=0:=hz _ (by simp)
 unfold sameF equalR
 cases ha:alikeF m n with
 | false=>rfl
 | true=>
  obtain⟨e1,e2⟩:=alike_iff ha
  rw[Bool.true_and,Bool.true_and]
  apply all_congr
  intro t ht
  obtain⟨g1,g2,_⟩:=placesN_uniform ht
  unfold samePl eqAt
  rw[LeastF_eq (entry_right hm g1 g2),LeastF_eq (entry_right hn (by omega) (by omega))]
theorem c163 (p : P4) (k:Int) (H:PH):Cl Tryz.prog 150 [p.num k] H emp fun v _ _=>v=p.twice.num k:=by
 refine Cl_of (pol:=polL) Γok Tryz.func150 (by kernel_rfl) rfl ?_
 conv=>whnf
 repeat (intro _;conv=>whnf)
 rfl
theorem c169 (p : P4) (k:Int) (H:PH):Cl Tryz.prog 127 [p.num k] H emp fun v _ _=>v=(conjP p).num k:=by
 refine Cl_of (pol:=polL) Γok Tryz.func127 (by kernel_rfl) rfl ?_
 conv=>whnf
 repeat (intro _;conv=>whnf)
 rfl
def ConjR (x : P4 × Int):(P4 × Int) × Int:=if checkR x.1 x.2 ≠ 0 then ((P4.zero,0),checkR x.1 x.2) else (formR (conjP x.1) x.2,0)
theorem c116 (x : P4 × Int) (H:PH):Cl Tryz.prog 120 [nv x] H emp fun v _ _=>v=ne (ConjR x):=by
 refine Cl_of (pol:=polL) Γok Tryz.func120 (by kernel_rfl) rfl ?_
 conv=>whnf
 repeat (intro _;conv=>whnf)
 refine (c108 x.1 x.2 _).val fun H1 s1=>?_
 conv=>whnf
 unfold ConjR
 refine if_intro (fun he=>?_) (fun he=>?_)
 ·conv=>whnf
  rw[if_pos (by simpa using he)]
  rfl
 ·have h0:checkR x.1 x.2=0:=by simpa using he
  have:=checkR_zero h0
  rw[if_neg (by simpa using he)]
  conv=>whnf
  refine (c169 x.1 x.2 _).val fun H2 s2=>?_
  conv=>whnf
  refine (c72 (conjP x.1) x.2 (by omega) (by omega) _).val fun H3 s3=>?_
  conv=>whnf
  rfl
def AddR (x y : P4 × Int):(P4 × Int) × Int:=
 if errsR [x,y] ≠ 0 then ((P4.zero,0),errsR [x,y]) else
  fitsR (opP (fun a b=>wr (a+b)) (raiseP (maxI (formR x.1 x.2).2 (formR y.1 y.2).2 - (formR x.1 x.2).2).toNat (formR x.1 x.2).1) (raiseP (maxI (formR x.1 x.2).2 (formR y.1 y.2).2 - (formR y.1 y.2).2).toNat (formR y.1 y.2).1)) (maxI (formR x.1 x.2).2 (formR y.1 y.2).2)
theorem c105 (x y : P4 × Int) (H:PH):Cl Tryz.prog 80 [nv x,nv y] H emp fun v _ _=>v=ne (AddR x y):=by
 refine Cl_of (pol:=fun | 9=>.imm | _=>.loc) Γok Tryz.func80 (by kernel_rfl) rfl ?_
 conv=>whnf
 iterate 3 (intro _;conv=>whnf)
 intro b hb hO
 conv=>whnf
 refine (c94 [x,y] _ _ (pair_num (ins_same _ _ _)) (by simp)).val fun H1 hs1=>?_
 conv=>whnf
 unfold AddR
 refine if_intro (fun he=>?_) (fun he=>?_)
 ·conv=>whnf
  rw[if_pos (show errsR [x,y] ≠ 0 by simpa using he)]
  rfl
 have he:errsR [x,y]=0:=by simpa using he
 rw[if_neg (show ¬ errsR [x,y] ≠ 0 by simpa using he)]
 have hz:=firstErr_zero he
 have hx:checkF x.1 x.2=0:=by rw[checkF_checkR];exact hz _ (by simp)
 have hy:checkF y.1 y.2=0:=by rw[checkF_checkR];exact hz _ (by simp)
 have hxk:=checkF_range hx
 have hyk:=checkF_range hy
 have hfx:=checkF_range (formR_right hx).1
 have hfy:=checkF_range (formR_right hy).1
 conv=>whnf
 refine W_draw (pol:=polL) Γok mixes [(0,.pendO),(2,.pend),(1,.lock),(3,.lock),(4,.lock),(5,.lock)] 67 (by kernel_rfl) rfl ?_
 conv=>whnf
 refine (c72 x.1 x.2 (by omega) (by omega) _).val fun H2 s2=>?_
 conv=>whnf
 refine (c72 y.1 y.2 (by omega) (by omega) _).val fun H3 s3=>?_
 conv=>whnf
 generalize formR x.1 x.2=fx at hfx ⊢
 generalize formR y.1 y.2=fy at hfy ⊢
 refine W_loopX (pol:=polL) Γok (Nat × PH) (fun i=>(i.1:Int)≤max 0 (fy.2 - fx.2)) (fun i=>(fy.2 - fx.2).toNat - i.1) (fun e i=>e=.exit 0∧i.1=(fy.2 - fx.2).toNat) (fun _=>[]) (fun i=>[(0,cellsOf (raiseP i.1 fx.1,fx.2+i.1))]) (fun i=>i.2) (fun _=>emp) ⟨(0,H3),by dsimp only;omega,rfl,rfl,?_⟩ ?_ ?_
 ·conv=>whnf
  repeat (refine⟨rfl,?_⟩;conv=>whnf)
  refine⟨by simp[cellsOf,raiseP],?_⟩
  conv=>whnf
  repeat (refine⟨rfl,?_⟩;conv=>whnf)
  trivial
 ·rintro ⟨i,H4⟩ h1
  dsimp only at h1
  conv=>whnf
  refine if_intro (fun hc=>?_) (fun hc=>?_)
  ·have hc':fx.2+(i:Int) < fy.2:=by simpa using hc
   conv=>whnf
   refine (c163 _ _ _).val fun H5 s5=>?_
   conv=>whnf
   refine⟨(i+1,H5),by dsimp only;omega,by dsimp only;omega,rfl,rfl,?_⟩
   conv=>whnf
   rw[wrap_id (by omega) (by omega)]
   repeat (refine⟨rfl,?_⟩;conv=>whnf)
   refine⟨by simp[cellsOf,raiseP];omega,?_⟩
   conv=>whnf
   repeat (refine⟨rfl,?_⟩;conv=>whnf)
   trivial
  ·have hc':¬ fx.2+(i:Int) < fy.2:=by simpa using hc
   conv=>whnf
   refine .inr ⟨(i,H4),⟨rfl,by dsimp only;omega⟩,rfl,rfl,?_⟩
   conv=>whnf
   repeat (refine⟨rfl,?_⟩;conv=>whnf)
   trivial
 rintro e ⟨i,H4⟩ ⟨rfl,h1⟩
 dsimp only at h1
 conv=>whnf
 refine W_loopX (pol:=polL) Γok (Nat × PH) (fun k=>(k.1:Int)≤max 0 (fx.2+i - fy.2)) (fun k=>(fx.2+i - fy.2).toNat - k.1) (fun e k=>e=.exit 2∧k.1=(fx.2+i - fy.2).toNat) (fun _=>[]) (fun k=>[(1,cellsOf (raiseP k.1 fy.1,fy.2+k.1))]) (fun k=>k.2) (fun _=>emp) ⟨(0,H4),by dsimp only;omega,rfl,rfl,?_⟩ ?_ ?_
 ·conv=>whnf
  repeat (refine⟨rfl,?_⟩;conv=>whnf)
  refine⟨by simp[cellsOf,raiseP],?_⟩
  conv=>whnf
  repeat (refine⟨rfl,?_⟩;conv=>whnf)
  trivial
 ·rintro ⟨k,H5⟩ h2
  dsimp only at h2
  conv=>whnf
  refine if_intro (fun hc=>?_) (fun hc=>?_)
  ·have hc':fy.2+(k:Int) < fx.2+i:=by simpa using hc
   conv=>whnf
   refine (c163 _ _ _).val fun H6 s6=>?_
   conv=>whnf
   refine⟨(k+1,H6),by dsimp only;omega,by dsimp only;omega,rfl,rfl,?_⟩
   conv=>whnf
   rw[wrap_id (by omega) (by omega)]
   repeat (refine⟨rfl,?_⟩;conv=>whnf)
   refine⟨by simp[cellsOf,raiseP];omega,?_⟩
   conv=>whnf
   repeat (refine⟨rfl,?_⟩;conv=>whnf)
   trivial
  ·have hc':¬ fy.2+(k:Int) < fx.2+i:=by simpa using hc
   conv=>whnf
   refine .inr ⟨(k,H5),⟨rfl,by dsimp only;omega⟩,rfl,rfl,?_⟩
   conv=>whnf
   repeat (refine⟨rfl,?_⟩;conv=>whnf)
   trivial
 rintro e ⟨k,H5⟩ ⟨rfl,h2⟩
 dsimp only at h2
 conv=>whnf
 refine (c159 (opP (fun a b=>wr (a+b)) (raiseP i fx.1) (raiseP k fy.1)) (fx.2+i) (by omega) (by omega) _).val fun H6 s6=>?_
 conv=>whnf
 have e1:(maxI fx.2 fy.2 - fx.2).toNat=i:=by unfold maxI;split<;>omega
 have e2:(maxI fx.2 fy.2 - fy.2).toNat=k:=by unfold maxI;split<;>omega
 have e3:maxI fx.2 fy.2=fx.2+i:=by unfold maxI;split<;>omega
 rw[e1,e2,e3]
 rfl
def dotStepR (o z : P4 × Int) (first:Bool) (w:P4 × Int):(P4 × Int) × Int:=
 let m:=MulR z w
 let a:=if m.2=0 then (if first then m else AddR o m.1) else m
 if a.2=0 then (a.1,0) else ((P4.zero,0),a.2)
def dotR (x y : Nat→P4 × Int):Nat→(P4 × Int) × Int
 | 0=>((P4.zero,0),0)
 | i+1=>if (dotR x y i).2=0 then dotStepR (dotR x y i).1 (x i) (decide (i=0)) (y i) else dotR x y i
theorem dotR_stay {x y : Nat→P4 × Int} {i:Nat} (h:(dotR x y i).2 ≠ 0):∀ n,i≤n→dotR x y n=dotR x y i:=by
 intro n
 induction n with
 | zero=>intro hn;rw[Nat.le_zero.1 hn]
 | succ n ih=>
  intro hn
  rcases Nat.lt_or_ge n i with h' | h'
  ·rw[show i=n+1 by omega]
  ·have e:=ih h'
   show (if (dotR x y n).2=0 then _ else dotR x y n)=_
   rw[e,if_neg h]
theorem c106 (l k : List (P4 × Int)) (hl:l.length < 1000000) (hk:l.length≤k.length) (H:PH) (u v:Value) (hu:NumH H u l) (hv:NumH H v k):Cl Tryz.prog 122 [u,v] H emp fun r _ _=>r=ne (dotR (atL l) (atL k) l.length):=by
 obtain⟨base,cap,rfl,_⟩:=id hu
 obtain⟨base',cap',rfl,_⟩:=id hv
 refine Cl_of (pol:=polL) Γok Tryz.func122 (by kernel_rfl) rfl ?_
 conv=>whnf
 intro b6
 conv=>whnf
 intro b8
 conv=>whnf
 refine W_loop (pol:=polL) Γok (Nat × PH × (P4 × Int)) (fun i=>i.1≤l.length∧Sub H i.2.1∧dotR (atL l) (atL k) i.1=(i.2.2,0)) (fun i=>l.length - i.1) (fun i=>[(7,.v (.int .i64 i.1))]) (fun i=>[(1,cellsOf i.2.2)]) (fun i=>i.2.1) (fun _=>emp) ⟨(0,H,(P4.zero,0)),⟨by simp,Sub.refl _,rfl⟩,rfl,rfl,?_⟩ ?_
 ·conv=>whnf
  repeat (refine⟨rfl,?_⟩;conv=>whnf)
  exact trivial
 ·rintro ⟨i,H',o⟩ ⟨h1,h2,h3⟩
  dsimp only at h1 h2 h3
  conv=>whnf
  refine if_intro (fun hg=>?_) (fun hg=>?_)
  ·have hi:i < l.length:=by simpa using hg
   have hi':i < k.length:=by omega
   obtain⟨_,b',off',rfl,hrd⟩:=(hu.up h2).rd (O:=emp) hi
   obtain⟨_,b'',off'',rfl,hrd'⟩:=(hv.up h2).rd (O:=emp) hi'
   conv=>whnf
   refine W_draw (pol:=polL) Γok mixes [(0,.pendO),(1,.pendO),(2,.pendO),(3,.pendO),(4,.pendO),(5,.pendO),(6,.pendO),(7,.pendO),(8,.lock),(9,.pendO),(10,.pendO),(11,.pendH),(12,.late),(13,.lock),(14,.pendO)] 48 (by kernel_rfl) rfl ?_
   conv=>whnf
   refine dec_intro (by omega) ?_
   conv=>whnf
   refine⟨_,hrd,?_⟩
   conv=>whnf
   refine dec_intro (by omega) ?_
   conv=>whnf
   refine⟨_,hrd',?_⟩
   conv=>whnf
   refine (c98 l[i] k[i] _).val fun H4 s4=>?_
   conv=>whnf
   intro b9
   conv=>whnf
   have hs:dotR (atL l) (atL k) (i+1)=dotStepR o l[i] (decide (i=0)) k[i]:=by
    show (if (dotR (atL l) (atL k) i).2=0 then _ else _)=_
    rw[h3,atL_get hi,atL_get hi'];rfl
   unfold dotStepR at hs
   dsimp only at hs
   have fin:∀ (a:P4 × Int) (H5:PH),Sub H4 H5→dotR (atL l) (atL k) (i+1)=(a,0)→i+1≤l.length∧Sub H H5∧dotR (atL l) (atL k) (i+1)=(a,0):=fun a H5 s5 h=>⟨hi,h2.trans (s4.trans s5),h⟩
   have bad:∀ e:Int,e ≠ 0→dotR (atL l) (atL k) (i+1)=((P4.zero,0),e)→ne ((P4.zero,0),e)=ne (dotR (atL l) (atL k) l.length):=fun e he h=>by
    rw[dotR_stay (i:=i+1) (by rw[h];exact he) l.length hi,h]
   refine if_intro (fun he=>?_) (fun he=>?_)
   ·have he0:(MulR l[i] k[i]).2=0:=by simpa using he
    rw[if_pos he0] at hs
    conv=>whnf
    refine if_intro (fun hp=>?_) (fun hp=>?_)
    ·have hp : i = 0 := by
      have:(i:Int)=0:=by simpa using hp
      omega
     rw[show decide (i=0)=true by simp;omega] at hs
     simp only[if_true] at hs
     rw[if_pos he0] at hs
     conv=>whnf
     rw[he0]
     conv=>whnf
     refine⟨(i+1,H4,(MulR l[i] k[i]).1),fin _ _ (Sub.refl _) hs,by dsimp only;omega,?_⟩
     conv=>whnf
     refine⟨rfl,rfl,?_⟩
     conv=>whnf
     repeat (refine⟨rfl,?_⟩;conv=>whnf)
     refine⟨by show En.v (.int .i64 (IntKind.i64.wrap (i+1)))=_;rw[wrap_id (by omega) (by omega)];rfl,?_⟩
     conv=>whnf
     repeat (refine⟨rfl,?_⟩;conv=>whnf)
     exact trivial
    ·have hp : ¬ i = 0 := by
      have:¬ (i:Int)=0:=by simpa using hp
      omega
     rw[show decide (i=0)=false by simp;omega] at hs
     conv=>whnf
     rw[he0]
     conv=>whnf
     refine (c105 o (MulR l[i] k[i]).1 _).val fun H5 s5=>?_
     conv=>whnf
     simp only[Bool.false_eq_true,if_false] at hs
     refine if_intro (fun ha=>?_) (fun ha=>?_)
     ·have ha:(AddR o (MulR l[i] k[i]).1).2 ≠ 0:=by simpa using ha
      conv=>whnf
      rw[if_neg ha] at hs
      exact bad _ ha hs
     ·have ha:(AddR o (MulR l[i] k[i]).1).2=0:=by simpa using ha
      rw[if_pos ha] at hs
      conv=>whnf
      refine⟨(i+1,H5,(AddR o (MulR l[i] k[i]).1).1),fin _ _ s5 hs,by dsimp only;omega,?_⟩
      conv=>whnf
      refine⟨rfl,rfl,?_⟩
      conv=>whnf
      repeat (refine⟨rfl,?_⟩;conv=>whnf)
      refine⟨by show En.v (.int .i64 (IntKind.i64.wrap (i+1)))=_;rw[wrap_id (by omega) (by omega)];rfl,?_⟩
      conv=>whnf
      repeat (refine⟨rfl,?_⟩;conv=>whnf)
      exact trivial
   ·have he0:(MulR l[i] k[i]).2 ≠ 0:=by simpa using he
    rw[if_neg he0] at hs
    rw[if_neg he0] at hs
    conv=>whnf
    refine if_intro (fun ha=>?_) (fun ha=>?_)
    ·exact absurd (by simpa using ha) he0
    conv=>whnf
    refine if_intro (fun ha=>?_) (fun ha=>?_)
    ·conv=>whnf
     exact bad _ he0 hs
    ·exact absurd (by simpa using ha) he0
  ·have hi:i=l.length:=by simp at hg;omega
   conv=>whnf
   subst hi
   rw[h3]
   rfl
theorem one_mat {H : PH} {b:Nat} {v:Value} {l:List (P4 × Int)} (hb:H b=some (.cells ⟨[v]⟩ 22 (0,0))) (hv:NumH H v l):MatH H (.slice (some ⟨b,0,none⟩) 1 1) [l]:=by
 refine⟨[v],rfl,⟨_,_,rfl,.inr ⟨b,0,_,_,_,rfl,hb,rfl⟩⟩,fun i r u hr hu=>?_⟩
 match i,hr,hu with
 | 0,hr,hu=>cases hr;cases hu;exact hv
theorem NumO.share {H M : PH} {v:Value} {l:List (P4 × Int)} (h:NumO M v l) (hd:Dis H M):NumH (un H M) v l:=by
 obtain⟨h1,h⟩:=h
 rcases h with⟨rfl,h⟩ | ⟨b,cap,spare,rfl,hO,hcap,hsp⟩
 ·have:l=[]:=by simpa using h
  subst this
  exact⟨none,0,rfl,.inl ⟨rfl,rfl⟩⟩
 ·refine⟨some ⟨b,0,none⟩,cap,by simp,.inr ⟨b,0,_,_,_,rfl,un_right hd hO,?_⟩⟩
  simp[cellsN]
theorem one_mats {H : PH} {b:Nat} {t:TypeId} {u:Value} {m:List (List (P4 × Int))} (hb:H b=some (.cells ⟨[u]⟩ t (0,0))) (hu:MatH H u m):MatsH H (.slice (some ⟨b,0,none⟩) 1 1) [m]:=by
 refine⟨[u],rfl,⟨_,_,rfl,.inr ⟨b,0,_,_,_,rfl,hb,rfl⟩⟩,fun i m' u' hm hu'=>?_⟩
 match i,hm,hu' with
 | 0,hm,hu'=>cases hm;cases hu';exact hu
theorem NumO.clearK {O : PH} {v:Value} {l:List (P4 × Int)} {K:PH→Prop} (h:NumO O v l) (k:∀ O',K O'):Go.Proofs.YtodmckckapmmoaaGreatDoor.X.clearK O 5 [.int .i64 0,.int .i64 0,.int .i64 0,.int .i64 0,.int .i64 0] v K:=by
 obtain⟨h1,h⟩:=h
 unfold Go.Proofs.YtodmckckapmmoaaGreatDoor.X.clearK
 rcases h with⟨rfl,h⟩ | ⟨b,cap,spare,rfl,hO,hcap,hsp⟩
 ·refine⟨none,0,0,rfl,rfl,by simp[Value.oneCell'],fun _=>k _,fun a h=>by cases h⟩
 ·refine⟨some ⟨b,0,none⟩,_,cap,rfl,rfl,by simp[Value.oneCell'],fun _=>k _,fun a h _=>?_⟩
  cases h
  refine⟨b,0,_,_,rfl,hO,?_,k _⟩
  rw[List.length_append,flat_length h1]
  omega
theorem P4.ext' {p q : P4} (h1:p.a=q.a) (h2:p.b=q.b) (h3:p.c=q.c) (h4:p.d=q.d):p=q:=by
 cases p;cases q;simp_all
def tw (p : P4):P4:=⟨p.b - p.d,p.a+p.c,p.b+p.d,p.c - p.a⟩
def rz : Nat→P4→P4
 | 0,p=>p
 | n+1,p=>tw (rz n p)
def pl (p q : P4):P4:=⟨p.a+q.a,p.b+q.b,p.c+q.c,p.d+q.d⟩
theorem wr_id {n : Int} (h1:-9223372036854775808≤n) (h2:n < 9223372036854775808):wr n=n:=wrap_id h1 h2
theorem within_mono {p : P4} {u v:Int} (h:p.within u) (huv:u≤v):p.within v:=by
 unfold P4.within at *
 omega
theorem twice_tw {p : P4} (h:p.within 2305843009213693952):p.twice=tw p:=by
 unfold P4.within at h
 unfold P4.twice tw
 rw[wr_id (by omega) (by omega),wr_id (by omega) (by omega),wr_id (by omega) (by omega),wr_id (by omega) (by omega)]
def grown (M : Int):Nat→Int
 | 0=>M
 | 1=>2*M
 | n+2=>2*grown M n
theorem rz_grown {p : P4} {M:Int} (h:p.within M):∀ n,(rz n p).within (grown M n)∧(tw (rz n p)).within (grown M (n+1))
 | 0=>by
  refine⟨h,?_⟩
  show (tw p).within (2*M)
  unfold P4.within at *
  unfold tw
  dsimp only
  omega
 | n+1=>by
  obtain⟨h1,h2⟩:=rz_grown h n
  refine⟨h2,?_⟩
  show (tw (tw (rz n p))).within (2*grown M n)
  unfold P4.within at h1 ⊢
  unfold tw
  dsimp only
  omega
theorem grown_le : ∀ n,n≤60→grown 1073741824 n≤1152921504606846976:=by
 intro n hn
 have:∀ n:Fin 61,grown 1073741824 n≤1152921504606846976:=by decide +kernel
 exact this ⟨n,by omega⟩
theorem rz_within {p : P4} (h:p.within 1073741824) {n:Nat} (hn:n≤60):(rz n p).within 1152921504606846976:=
 within_mono (rz_grown h n).1 (grown_le n hn)
theorem raiseP_rz {p : P4} (h:p.within 1073741824):∀ n,n≤60→raiseP n p=rz n p
 | 0,_=>rfl
 | n+1,hn=>by
  show (raiseP n p).twice=tw (rz n p)
  rw[raiseP_rz h n (by omega),twice_tw (within_mono (rz_within h (by omega)) (by decide))]
theorem tw_pl (p q : P4):tw (pl p q)=pl (tw p) (tw q):=by
 unfold tw pl
 apply P4.ext'<;>dsimp only<;>omega
theorem rz_pl (p q : P4):∀ n,rz n (pl p q)=pl (rz n p) (rz n q)
 | 0=>rfl
 | n+1=>by
  show tw (rz n (pl p q))=_
  rw[rz_pl p q n,tw_pl]
  rfl
theorem rz_add (p : P4) (m:Nat):∀ n,rz (n+m) p=rz n (rz m p)
 | 0=>by rw[Nat.zero_add];rfl
 | n+1=>by
  rw[Nat.succ_add]
  show tw (rz (n+m) p)=tw (rz n (rz m p))
  rw[rz_add p m n]
theorem tw_zero {p : P4}:(tw p).isZero=p.isZero:=by
 rw[Bool.eq_iff_iff,isZero_iff,isZero_iff]
 unfold tw
 dsimp only
 omega
theorem rz_isZero {p : P4}:∀ n,(rz n p).isZero=p.isZero
 | 0=>rfl
 | n+1=>by
  show (tw (rz n p)).isZero=_
  rw[tw_zero,rz_isZero n]
theorem isZero_eq {p : P4} (h:p.isZero=true):p=P4.zero:=by
 obtain⟨a,b,c,d⟩:=isZero_iff.1 h
 cases p
 simp_all [P4.zero]
def P4.fine (p : P4):Prop:=(-4611686018427387904≤p.a+p.c∧p.a+p.c≤4611686018427387904)∧(-4611686018427387904≤p.a - p.c∧p.a - p.c≤4611686018427387904) ∧
 (-4611686018427387904≤p.b+p.d∧p.b+p.d≤4611686018427387904)∧(-4611686018427387904≤p.b - p.d∧p.b - p.d≤4611686018427387904)
theorem fine_of {p : P4} (h:p.within 2305843009213693952):p.fine:=by
 unfold P4.within at h
 unfold P4.fine
 omega
theorem even_fine {p : P4} (h:p.fine):p.even=evenR p:=by
 unfold P4.fine at h
 unfold P4.even evenR
 rw[wr_id (by omega) (by omega),wr_id (by omega) (by omega),Bool.eq_iff_iff]
 simp only[Bool.and_eq_true,beq_iff_eq,tm2,low_mod]
 omega
def hf (p : P4):P4:=⟨(p.b - p.d) / 2,(p.a+p.c) / 2,(p.b+p.d) / 2,(p.c - p.a) / 2⟩
theorem half_fine {p : P4} (h:p.fine) (he:evenR p=true):p.half=hf p∧halvedR p=hf p∧(hf p).fine∧tw (hf p)=p:=by
 unfold P4.fine at h
 obtain⟨h1,h2,h3,h4⟩:=h
 obtain⟨e1,e2⟩:=evenR_iff.1 he
 have t1:=td2 (x:=p.b - p.d) (by omega)
 have t2:=td2 (x:=p.a+p.c) (by omega)
 have t3:=td2 (x:=p.b+p.d) (by omega)
 have t4:=td2 (x:=p.c - p.a) (by omega)
 refine⟨?_,?_,?_,?_⟩
 ·unfold P4.half hf
  rw[wr_id (n:=p.b - p.d) (by omega) (by omega),wr_id (n:=p.a+p.c) (by omega) (by omega),wr_id (n:=p.b+p.d) (by omega) (by omega),wr_id (n:=p.c - p.a) (by omega) (by omega),t1,t2,t3,t4,
   wr_id (by omega) (by omega),wr_id (by omega) (by omega),wr_id (by omega) (by omega),wr_id (by omega) (by omega)]
 ·unfold halvedR hf
  simp only[shr1_div,low_mod]
  rw[wr_id (n:=p.b / 2 - p.d / 2) (by omega) (by omega),wr_id (n:=p.a / 2+p.c / 2) (by omega) (by omega),wr_id (n:=p.b / 2+p.d / 2) (by omega) (by omega),wr_id (n:=p.c / 2 - p.a / 2) (by omega) (by omega),wr_id (by omega) (by omega),wr_id (by omega) (by omega)]
  apply P4.ext'<;>dsimp only<;>omega
 ·unfold P4.fine hf
  dsimp only
  omega
 ·unfold tw hf
  apply P4.ext'<;>dsimp only<;>omega
theorem lower_fine : ∀ (k:Nat) (p:P4),p.fine→lower k p=lowerR k p
 | 0,p,h=>rfl
 | k+1,p,h=>by
  unfold lower lowerR
  rw[even_fine h]
  cases e:evenR p with
  | false=>rfl
  | true=>
   obtain⟨h1,h2,h3,_⟩:=half_fine h e
   simp only[if_true]
   rw[h1,h2]
   exact lower_fine k _ h3
theorem lowerR_le : ∀ (k:Nat) (p:P4),(lowerR k p).2≤k
 | 0,p=>Nat.le_refl _
 | k+1,p=>by
  unfold lowerR
  split
  ·have:=lowerR_le k (halvedR p);omega
  ·exact Nat.le_refl _
theorem formR_eq {p : P4} {k:Int} (h:0≤k) (hz:p.isZero=false):formR p k=((lowerR k.toNat p).1,((lowerR k.toNat p).2:Int)):=by
 unfold formR
 rw[hz]
 simp only[Bool.false_eq_true,if_false]
 split
 ·rfl
 ·have:k=0:=by omega
  subst this
  rfl
theorem least_fits {p : P4} {k:Int} (h:p.fine) (hk:0≤k):leastF p k=fitsR p k:=by
 cases hz:p.isZero with
 | true=>
  have:p=P4.zero:=isZero_eq hz
  subst this
  rfl
 | false=>
  unfold leastF fitsR
  rw[hz,formR_eq hk hz]
  simp only[Bool.false_eq_true,if_false]
  have hl:lowered p k=((lowerR k.toNat p).1,((lowerR k.toNat p).2:Int)):=by
   unfold lowered
   rw[lower_fine _ _ h]
   split
   ·rfl
   ·have:k=0:=by omega
    subst this
    rfl
  rw[hl]
  dsimp only
  rw[show (-((lowerR k.toNat p).2:Int)).toNat=0 by omega]
  show leastE (some _) _=_
  rw[leastE_some,← checkF_checkR]
  unfold checkF
  by_cases hj:60 < ((lowerR k.toNat p).2:Int)
  ·rw[if_pos hj]
   rw[show (decide (((lowerR k.toNat p).2:Int) < 0) || decide (((lowerR k.toNat p).2:Int) > 60))=true by simp;omega]
   rfl
  ·rw[if_neg hj]
   rw[show (decide (((lowerR k.toNat p).2:Int) < 0) || decide (((lowerR k.toNat p).2:Int) > 60))=false by simp;omega]
   cases (lowerR k.toNat p).1.list.all (inN 1073741824) with
   | false=>rfl
   | true=>
    simp only[Bool.false_eq_true,if_false,if_true]
    rw[if_neg (by simp),Int.max_eq_left (by omega)]
theorem lowerR_tw {q : P4} (h:q.within 2305843009213693952) (k:Nat):lowerR (k+1) (tw q)=lowerR k q:=by
 unfold P4.within at h
 have he:evenR (tw q)=true:=by
  rw[evenR_iff]
  unfold tw
  dsimp only
  omega
 have hfi:(tw q).fine:=by
  unfold P4.fine tw
  dsimp only
  omega
 have hh:halvedR (tw q)=q:=by
  rw[(half_fine hfi he).2.1]
  unfold hf tw
  apply P4.ext'<;>dsimp only<;>omega
 show (if evenR (tw q) then lowerR k (halvedR (tw q)) else (tw q,k+1))=_
 rw[he,hh]
 rfl
theorem lowerR_rz {s : P4} (k:Nat):∀ n,(∀ i,i < n→(rz i s).within 2305843009213693952)→lowerR (k+n) (rz n s)=lowerR k s
 | 0,_=>rfl
 | n+1,h=>by
  show lowerR (k+n+1) (tw (rz n s))=_
  rw[lowerR_tw (h n (by omega)) (k+n),lowerR_rz k n fun i hi=>h i (by omega)]
theorem formR_rz {s : P4} {k:Int} (hk:0≤k) (n:Nat) (h:∀ i,i < n→(rz i s).within 2305843009213693952):formR (rz n s) (k+n)=formR s k:=by
 cases hz:s.isZero with
 | true=>
  have:=isZero_eq ((rz_isZero (p:=s) n).trans hz)
  rw[this,isZero_eq hz]
  rfl
 | false=>
  rw[formR_eq hk hz,formR_eq (by omega) ((rz_isZero (p:=s) n).trans hz)]
  rw[show (k+(n:Int)).toNat=k.toNat+n by omega,lowerR_rz _ _ h]
theorem lowerR_back : ∀ (k:Nat) (p:P4),p.within 1073741824→p=rz (k - (lowerR k p).2) (lowerR k p).1∧(lowerR k p).1.within 1073741824
 | 0,p,h=>⟨rfl,h⟩
 | k+1,p,h=>by
  unfold lowerR
  cases e:evenR p with
  | false=>exact⟨by simp[rz],by simpa using h⟩
  | true=>
   obtain⟨h1,h2⟩:=half_eq h e
   rw[h1] at h2
   obtain⟨g1,g2⟩:=lowerR_back k (halvedR p) h2
   simp only[if_true]
   refine⟨?_,g2⟩
   have hle:=lowerR_le k (halvedR p)
   obtain⟨f1,f2,f3,f4⟩:=half_fine (fine_of (within_mono h (by decide))) e
   rw[show k+1 - (lowerR k (halvedR p)).2=(k - (lowerR k (halvedR p)).2)+1 by omega]
   show p=tw (rz _ _)
   rw[← g1,f2,f4]
theorem formR_back {p : P4} {k:Int} (h:checkF p k=0):p=rz (k - (formR p k).2).toNat (formR p k).1∧0≤(formR p k).2∧(formR p k).2≤k∧(formR p k).1.within 1073741824:=by
 obtain⟨k1,k2,hp⟩:=checkF_range h
 have hw:=(all_iff (by decide) (by decide)).1 hp
 cases hz:p.isZero with
 | true=>
  have e:formR p k=(P4.zero,0):=by unfold formR;rw[hz];rfl
  rw[e]
  refine⟨?_,Int.le_refl _,k1,by unfold P4.within;simp[P4.zero]⟩
  have:(rz (k - ((P4.zero,(0:Int)):P4 × Int).2).toNat P4.zero).isZero=true:=by rw[rz_isZero];rfl
  rw[isZero_eq this,isZero_eq hz]
 | false=>
  rw[formR_eq k1 hz]
  obtain⟨g1,g2⟩:=lowerR_back k.toNat p hw
  have hle:=lowerR_le k.toNat p
  refine⟨?_,by dsimp only;omega,by dsimp only;omega,g2⟩
  dsimp only
  rw[show (k - ((lowerR k.toNat p).2:Int)).toNat=k.toNat - (lowerR k.toNat p).2 by omega]
  exact g1
theorem pl_within {p q : P4} {u v w:Int} (hp:p.within u) (hq:q.within v) (h:u+v≤w):(pl p q).within w:=by
 unfold P4.within at *
 unfold pl
 dsimp only
 omega
theorem opP_pl {p q : P4} (hp:p.within 1152921504606846976) (hq:q.within 1152921504606846976):opP (fun a b=>wr (a+b)) p q=pl p q:=by
 unfold P4.within at hp hq
 unfold opP pl
 dsimp only
 rw[wr_id (by omega) (by omega),wr_id (by omega) (by omega),wr_id (by omega) (by omega),wr_id (by omega) (by omega)]
theorem Add_eq (x y : P4 × Int):AddF x y=AddR x y:=by
 unfold AddF AddR
 rw[errs_same]
 by_cases he:checks2 x y=0
 ·rw[if_pos he,if_neg (show ¬ errsF [x,y] ≠ 0 by unfold checks2 at he;rw[he];simp)]
  obtain⟨hx,hy⟩:=checks2_zero he
  have rx:=checkF_range hx
  have ry:=checkF_range hy
  have wx:=(all_iff (by decide) (by decide)).1 rx.2.2
  have wy:=(all_iff (by decide) (by decide)).1 ry.2.2
  obtain⟨bx,bx0,bxk,bxw⟩:=formR_back hx
  obtain⟨by',by0,byk,byw⟩:=formR_back hy
  generalize formR x.1 x.2=fx at *
  generalize formR y.1 y.2=fy at *
  have mx:maxI x.2 y.2=max x.2 y.2:=by unfold maxI;split<;>omega
  have mf:maxI fx.2 fy.2=max fx.2 fy.2:=by unfold maxI;split<;>omega
  unfold addG raisedF
  rw[mx,mf,wr_id (n:=max x.2 y.2 - x.2) (by omega) (by omega),wr_id (n:=max x.2 y.2 - y.2) (by omega) (by omega)]
  rw[raiseP_rz wx _ (by omega),raiseP_rz wy _ (by omega),raiseP_rz bxw _ (by omega),raiseP_rz byw _ (by omega)]
  rw[opP_pl (rz_within wx (by omega)) (rz_within wy (by omega)),opP_pl (rz_within bxw (by omega)) (rz_within byw (by omega))]
  have key:pl (rz (max x.2 y.2 - x.2).toNat x.1) (rz (max x.2 y.2 - y.2).toNat y.1)=rz (max x.2 y.2 - max fx.2 fy.2).toNat (pl (rz (max fx.2 fy.2 - fx.2).toNat fx.1) (rz (max fx.2 fy.2 - fy.2).toNat fy.1)):=by
   rw[rz_pl,← rz_add,← rz_add]
   rw[bx,by',← rz_add,← rz_add]
   congr 2<;>omega
  have small:∀ i,i≤(max x.2 y.2 - max fx.2 fy.2).toNat→(rz i (pl (rz (max fx.2 fy.2 - fx.2).toNat fx.1) (rz (max fx.2 fy.2 - fy.2).toNat fy.1))).within 2305843009213693952:=by
   intro i hi
   rw[rz_pl,← rz_add,← rz_add]
   exact pl_within (rz_within bxw (by omega)) (rz_within byw (by omega)) (by decide)
  rw[key,least_fits (fine_of (small _ (Nat.le_refl _))) (by omega)]
  unfold fitsR
  have:=formR_rz (s:=pl (rz (max fx.2 fy.2 - fx.2).toNat fx.1) (rz (max fx.2 fy.2 - fy.2).toNat fy.1)) (k:=max fx.2 fy.2) (by omega) (max x.2 y.2 - max fx.2 fy.2).toNat fun i hi=>small i (by omega)
  rw[show max fx.2 fy.2+((max x.2 y.2 - max fx.2 fy.2).toNat:Int)=max x.2 y.2 by omega] at this
  rw[this]
 ·rw[if_neg he,if_pos (show errsF [x,y] ≠ 0 from he)]
  rfl
theorem mb {u : Int} (x:Int) (h:-1073741824≤u∧u≤1073741824):-(1073741824*max x (-x))≤x*u∧x*u≤1073741824*max x (-x):=by
 rcases Int.le_total 0 x with hx | hx
 ·have h1:=Int.mul_le_mul_of_nonneg_left h.1 hx
  have h2:=Int.mul_le_mul_of_nonneg_left h.2 hx
  rw[Int.max_eq_left (by omega)]
  omega
 ·have h1:=Int.mul_le_mul_of_nonpos_left hx h.1
  have h2:=Int.mul_le_mul_of_nonpos_left hx h.2
  rw[Int.max_eq_right (by omega)]
  omega
def pz (p q : P4):P4:=
 ⟨p.a*q.a - p.b*q.d - p.c*q.c - p.d*q.b,p.a*q.b+p.b*q.a - p.c*q.d - p.d*q.c,p.a*q.c+p.b*q.b+p.c*q.a - p.d*q.d,p.a*q.d+p.b*q.c+p.c*q.b+p.d*q.a⟩
theorem wr_wr (n : Int):wr (wr n)=wr n:=by
 have:=wr_bounds n
 exact wr_id this.1 this.2
theorem times_product (p q : P4):timesP p q=productR p q:=by
 unfold timesP productR
 simp only[Int.zero_add,wr_wr]
theorem mm {x u : Int} (hx:-1073741824≤x∧x≤1073741824) (h:-1073741824≤u∧u≤1073741824):-1152921504606846976≤x*u∧x*u≤1152921504606846976:=by
 have:=mb x h
 omega
theorem product_pz {p q : P4} (hp:p.within 1073741824) (hq:q.within 1073741824):productR p q=pz p q:=by
 obtain⟨pa,pb,pc,pd⟩:=hp
 obtain⟨qa,qb,qc,qd⟩:=hq
 have h1:=mm pa qa
 have h2:=mm pa qb
 have h3:=mm pa qc
 have h4:=mm pa qd
 have h5:=mm pb qa
 have h6:=mm pb qb
 have h7:=mm pb qc
 have h8:=mm pb qd
 have h9:=mm pc qa
 have h10:=mm pc qb
 have h11:=mm pc qc
 have h12:=mm pc qd
 have h13:=mm pd qa
 have h14:=mm pd qb
 have h15:=mm pd qc
 have h16:=mm pd qd
 unfold productR pz
 generalize p.a*q.a=x1 at *
 generalize p.a*q.b=x2 at *
 generalize p.a*q.c=x3 at *
 generalize p.a*q.d=x4 at *
 generalize p.b*q.a=x5 at *
 generalize p.b*q.b=x6 at *
 generalize p.b*q.c=x7 at *
 generalize p.b*q.d=x8 at *
 generalize p.c*q.a=x9 at *
 generalize p.c*q.b=x10 at *
 generalize p.c*q.c=x11 at *
 generalize p.c*q.d=x12 at *
 generalize p.d*q.a=x13 at *
 generalize p.d*q.b=x14 at *
 generalize p.d*q.c=x15 at *
 generalize p.d*q.d=x16 at *
 have w:∀ x:Int,-4611686018427387904≤x→x≤4611686018427387904→wr x=x:=fun x a b=>wr_id (by omega) (by omega)
 rw[w x1 (by omega) (by omega),w x2 (by omega) (by omega),w x3 (by omega) (by omega),w x4 (by omega) (by omega),w x5 (by omega) (by omega),w x6 (by omega) (by omega),w x7 (by omega) (by omega),w x8 (by omega) (by omega),
  w x9 (by omega) (by omega),w x10 (by omega) (by omega),w x11 (by omega) (by omega),w x12 (by omega) (by omega),w x13 (by omega) (by omega),w x14 (by omega) (by omega),w x15 (by omega) (by omega),w x16 (by omega) (by omega)]
 rw[w (x1 - x8) (by omega) (by omega),w (x1 - x8 - x11) (by omega) (by omega),w (x1 - x8 - x11 - x14) (by omega) (by omega),
  w (x2+x5) (by omega) (by omega),w (x2+x5 - x12) (by omega) (by omega),w (x2+x5 - x12 - x15) (by omega) (by omega),
  w (x3+x6) (by omega) (by omega),w (x3+x6+x9) (by omega) (by omega),w (x3+x6+x9 - x16) (by omega) (by omega),
  w (x4+x7) (by omega) (by omega),w (x4+x7+x10) (by omega) (by omega),w (x4+x7+x10+x13) (by omega) (by omega)]
theorem pz_fine {p q : P4} (hp:p.within 1073741824) (hq:q.within 1073741824):(pz p q).fine:=by
 obtain⟨pa,pb,pc,pd⟩:=hp
 obtain⟨qa,qb,qc,qd⟩:=hq
 have s1:=mb (p.a+p.c) qa
 have s2:=mb (p.a+p.c) qb
 have s3:=mb (p.a+p.c) qc
 have s4:=mb (p.a+p.c) qd
 have t1:=mb (p.a - p.c) qa
 have t2:=mb (p.a - p.c) qb
 have t3:=mb (p.a - p.c) qc
 have t4:=mb (p.a - p.c) qd
 have u1:=mb (p.b+p.d) qa
 have u2:=mb (p.b+p.d) qb
 have u3:=mb (p.b+p.d) qc
 have u4:=mb (p.b+p.d) qd
 have v1:=mb (p.b - p.d) qa
 have v2:=mb (p.b - p.d) qb
 have v3:=mb (p.b - p.d) qc
 have v4:=mb (p.b - p.d) qd
 have hs:max (p.a+p.c) (-(p.a+p.c))+max (p.a - p.c) (-(p.a - p.c))≤2147483648:=by omega
 have hu:max (p.b+p.d) (-(p.b+p.d))+max (p.b - p.d) (-(p.b - p.d))≤2147483648:=by omega
 generalize max (p.a+p.c) (-(p.a+p.c))=S at *
 generalize max (p.a - p.c) (-(p.a - p.c))=T at *
 generalize max (p.b+p.d) (-(p.b+p.d))=U at *
 generalize max (p.b - p.d) (-(p.b - p.d))=V at *
 rw[Int.add_mul] at s1 s2 s3 s4 u1 u2 u3 u4
 rw[Int.sub_mul] at t1 t2 t3 t4 v1 v2 v3 v4
 unfold P4.fine pz
 dsimp only
 clear pa pb pc pd qa qb qc qd
 generalize p.a*q.a=x1 at *
 generalize p.a*q.b=x2 at *
 generalize p.a*q.c=x3 at *
 generalize p.a*q.d=x4 at *
 generalize p.b*q.a=x5 at *
 generalize p.b*q.b=x6 at *
 generalize p.b*q.c=x7 at *
 generalize p.b*q.d=x8 at *
 generalize p.c*q.a=x9 at *
 generalize p.c*q.b=x10 at *
 generalize p.c*q.c=x11 at *
 generalize p.c*q.d=x12 at *
 generalize p.d*q.a=x13 at *
 generalize p.d*q.b=x14 at *
 generalize p.d*q.c=x15 at *
 generalize p.d*q.d=x16 at *
 refine⟨⟨?_,?_⟩,⟨?_,?_⟩,⟨?_,?_⟩,⟨?_,?_⟩⟩
 ·clear s2 s3 s4 t1 t2 t4 u1 u2 u3 v1 v3 v4;omega
 ·clear s2 s3 s4 t1 t2 t4 u1 u2 u3 v1 v3 v4;omega
 ·clear s1 s2 s4 t2 t3 t4 u1 u3 u4 v1 v2 v3;omega
 ·clear s1 s2 s4 t2 t3 t4 u1 u3 u4 v1 v2 v3;omega
 ·clear s1 s3 s4 t1 t2 t3 u2 u3 u4 v1 v2 v4;omega
 ·clear s1 s3 s4 t1 t2 t3 u2 u3 u4 v1 v2 v4;omega
 ·clear s1 s2 s3 t1 t3 t4 u1 u2 u4 v2 v3 v4;omega
 ·clear s1 s2 s3 t1 t3 t4 u1 u2 u4 v2 v3 v4;omega
theorem Mul_eq (x y : P4 × Int):MulF x y=MulR x y:=by
 unfold MulF MulR
 rw[errs_same]
 by_cases he:checks2 x y=0
 ·rw[if_pos he,if_neg (show ¬ errsF [x,y] ≠ 0 by unfold checks2 at he;rw[he];simp)]
  obtain⟨hx,hy⟩:=checks2_zero he
  have rx:=checkF_range hx
  have ry:=checkF_range hy
  have wx:=(all_iff (by decide) (by decide)).1 rx.2.2
  have wy:=(all_iff (by decide) (by decide)).1 ry.2.2
  rw[wr_id (by omega) (by omega),times_product,product_pz wx wy]
  exact least_fits (pz_fine wx wy) (by omega)
 ·rw[if_neg he,if_pos (show errsF [x,y] ≠ 0 from he)]
  rfl
theorem Conj_eq (x : P4 × Int):ConjF x=ConjR x:=by
 unfold ConjF ConjR
 rw[← checkF_checkR]
 by_cases he:checkF x.1 x.2=0
 ·rw[if_pos he,if_neg (by rw[he];simp)]
  obtain⟨k1,k2,hp⟩:=checkF_range he
  have hw:=(all_iff (by decide) (by decide)).1 hp
  obtain⟨pa,pb,pc,pd⟩:=hw
  apply least_eq
  unfold checkF
  rw[show (decide (x.2 < 0) || decide (x.2 > 60))=false by simp;omega,(all_iff (by decide) (by decide)).2]
  ·rfl
  ·unfold P4.within conjP
   dsimp only
   rw[wr_id (by omega) (by omega),wr_id (by omega) (by omega),wr_id (by omega) (by omega)]
   omega
 ·rw[if_neg he,if_pos he]
theorem dotStep_eq (o z : P4 × Int) (f:Bool) (w:P4 × Int):dotStep o z f w=dotStepR o z f w:=by
 unfold dotStep dotStepR
 simp only[Mul_eq,Add_eq]
theorem dot_eq {x y x' y' : Nat→P4 × Int}:∀ n,(∀ i,i < n→x i=x' i∧y i=y' i)→dotF x y n=dotR x' y' n
 | 0,_=>rfl
 | n+1,h=>by
  unfold dotF dotR
  rw[dot_eq n fun i hi=>h i (by omega),dotStep_eq,(h n (by omega)).1,(h n (by omega)).2]
def gridM (F : Nat→Nat→(P4 × Int) × Int) (h w:Nat):List (List (P4 × Int)):=(List.range h).map fun i=>(List.range w).map fun k=>(F i k).1
theorem gridM_entry (F : Nat→Nat→(P4 × Int) × Int) {h w i k:Nat} (hi:i < h) (hk:k < w):entry (gridM F h w) i k=(F i k).1:=by
 unfold entry gridM
 simp[List.getD_eq_getElem?_getD,hi,hk]
theorem gridM_shape (F : Nat→Nat→(P4 × Int) × Int) (h w:Nat):(gridM F h w).length=h∧∀ (i:Nat) (r:List (P4 × Int)),(gridM F h w)[i]?=some r→r.length=w:=by
 refine⟨by simp[gridM],fun i r hr=>?_⟩
 unfold gridM at hr
 rw[List.getElem?_map] at hr
 obtain⟨a,_,rfl⟩:=Option.map_eq_some_iff.1 hr
 simp
theorem fills_grid (F : Nat→Nat→(P4 × Int) × Int) (h w:Nat):fills F h w (h*w)=gridM F h w:=
 fills_eq (gridM_shape F h w).1 (gridM_shape F h w).2 fun i k hi hk=>(gridM_entry F hi hk).symm
theorem grid_congr {F G : Nat→Nat→(P4 × Int) × Int} {h w:Nat} (he:∀ i k,i < h→k < w→F i k=G i k):gridM F h w=gridM G h w∧errsE F h w=errsE G h w:=by
 constructor
 ·unfold gridM
  refine List.map_congr_left fun i hi=>List.map_congr_left fun k hk=>?_
  rw[he i k (List.mem_range.1 hi) (List.mem_range.1 hk)]
 ·unfold errsE
  refine List.map_congr_left fun n hn=>?_
  have hn:=List.mem_range.1 hn
  have hw:0 < w:=by
   rcases Nat.eq_zero_or_pos w with h0 | h0
   ·subst h0;omega
   ·exact h0
  rw[he _ _ (Nat.div_lt_of_lt_mul (by rw[Nat.mul_comm];exact hn)) (Nat.mod_lt _ hw)]
theorem MadeH.congr {F G : Nat→Nat→(P4 × Int) × Int} {h w:Nat} {r:Value} {H:PH} (he:∀ i k,i < h→k < w→F i k=G i k) (m:MadeH F h w r H):MadeH G h w r H:=by
 obtain⟨e1,e2⟩:=grid_congr he
 unfold MadeH at *
 rw[fills_grid] at *
 rw[e1,e2] at m
 exact m
theorem MadeE.congr {F G : Nat→Nat→(P4 × Int) × Int} {h w:Nat} {r:Value} {H:PH} (he:∀ i k,i < h→k < w→F i k=G i k) (m:MadeE F h w r H):MadeE G h w r H:=by
 obtain⟨e1,e2⟩:=grid_congr he
 unfold MadeE at *
 rw[fills_grid] at *
 rw[e1,e2] at m
 exact m
structure GridO (H O : PH) (b0 h:Nat) (us:List Value) (m:List (List (P4 × Int))):Prop where
 rows:RowsH H us m
 list:O b0=some (.cells ⟨us++List.replicate (h - us.length) (.slice none 0 0)⟩ 22 (0,0))
structure GridC (H O : PH) (b0 h:Nat) (us:List Value) (m:List (List (P4 × Int))) (cur:Value) (l:List (P4 × Int)):Prop where
 rows:RowsH H us m
 lt:us.length < h
 list:O b0=some (.cells ⟨us++[cur]++List.replicate (h - (us.length+1)) (.slice none 0 0)⟩ 22 (0,0))
 row:NumO O cur l
theorem GridO.up {H H' O : PH} {b0 h:Nat} {us:List Value} {m:List (List (P4 × Int))} (g:GridO H O b0 h us m) (hs:Sub H H'):GridO H' O b0 h us m:=⟨g.rows.up hs,g.list⟩
theorem GridC.up {H H' O : PH} {b0 h:Nat} {us:List Value} {m:List (List (P4 × Int))} {cur:Value} {l:List (P4 × Int)} (g:GridC H O b0 h us m cur l) (hs:Sub H H'):GridC H' O b0 h us m cur l:=⟨g.rows.up hs,g.lt,g.list,g.row⟩
theorem GridO.start {H : PH} (b0 h:Nat) (O:PH):GridO H (ins O b0 (.cells ⟨(List.replicate h [Value.slice none 0 0]).flatten⟩ 22 (0,0))) b0 h [] []:=by
 refine⟨⟨rfl,by simp⟩,?_⟩
 rw[ins_same]
 simp
theorem GridO.next {H O : PH} {b0 h:Nat} {us:List Value} {m:List (List (P4 × Int))} (g:GridO H O b0 h us m) (hl:us.length < h):GridC H O b0 h us m (.slice none 0 0) []:=by
 refine⟨g.rows,hl,?_,by simp,.inl ⟨rfl,by simp⟩⟩
 have:=g.list
 rw[show h - us.length=(h - (us.length+1))+1 by omega,List.replicate_succ] at this
 rw[this]
 simp
theorem GridC.ne {H O : PH} {b0 h:Nat} {us:List Value} {m:List (List (P4 × Int))} {cur:Value} {l:List (P4 × Int)} (g:GridC H O b0 h us m cur l):∀ n cap,cur ≠ .slice (some ⟨b0,0,none⟩) n cap:=by
 intro n cap e
 rcases g.row.2 with⟨e',_⟩ | ⟨b',cap',spare,e',hO',_⟩
 ·rw[e] at e';cases e'
 ·rw[e] at e'
  cases e'
  rw[g.list] at hO'
  injection hO' with hO'
  injection hO' with _ hO'
  exact absurd hO' (by decide)
theorem GridC.rd {H O : PH} {b0 h:Nat} {us:List Value} {m:List (List (P4 × Int))} {cur:Value} {l:List (P4 × Int)} (g:GridC H O b0 h us m cur l) {i:Nat} (hi:i=us.length):Rd H O ⟨b0,0+i*1,none⟩ 1 [cur]:=by
 subst hi
 refine⟨rfl,rfl,_,_,_,.inr g.list,?_⟩
 simp
theorem GridC.step {H O O2 : PH} {b0 h:Nat} {us:List Value} {m:List (List (P4 × Int))} {cur v:Value} {l l':List (P4 × Int)} {i:Nat} (hi:i=us.length) (g:GridC H O b0 h us m cur l) (hv:NumO O2 v l')
 (hk:∀ n o,O n=some o→(∀ cap,cur ≠ .slice (some ⟨n,0,none⟩) (l.map cellsOf).length cap)→O2 n=some o) :
 ∃ cs,O2 b0=some (.cells ⟨cs⟩ 22 (0,0))∧0+i*1+1≤cs.length∧GridC H (ins O2 b0 (.cells ⟨cs.take (0+i*1)++[v]++cs.drop (0+i*1+1)⟩ 22 (0,0))) b0 h us m v l':=by
 subst hi
 refine⟨_,hk _ _ g.list fun cap=>g.ne _ _,by simp,g.rows,g.lt,?_,?_⟩
 ·rw[ins_same]
  congr 3
  have e:(0+us.length*1)=us.length:=by omega
  rw[e,List.append_assoc us,List.take_left,← List.drop_drop,List.drop_left]
  simp
 ·refine OwnS.keep hv fun n cs hn=>?_
  by_cases e:n=b0
  ·subst e
   rw[hk _ _ g.list fun cap=>g.ne _ _] at hn
   cases hn
  ·rw[ins_ne _ _ e];exact hn
theorem GridC.done {H O : PH} (hd:Dis H O) {b0 h:Nat} {us:List Value} {m:List (List (P4 × Int))} {cur:Value} {l:List (P4 × Int)} (g:GridC H O b0 h us m cur l) :
 ∃ H' O',Repart H O H' O'∧GridO H' O' b0 h (us++[cur]) (m++[l]):=by
 obtain⟨g1,g2,g3,h1,h⟩:=id g
 rcases h with⟨rfl,h⟩ | ⟨b,cap,spare,rfl,hO,hcap,hsp⟩
 ·have:l=[]:=by simpa using h
  subst this
  refine⟨H,O,.refl hd,g1.snoc ⟨none,0,rfl,.inl ⟨rfl,rfl⟩⟩,?_⟩
  rw[g3]
  simp
 ·have hs:=(Repart.one hd hO).sub
  refine⟨_,_,.one hd hO,(g1.up hs).snoc ⟨some ⟨b,0,none⟩,cap,by simp,.inr ⟨b,0,_,_,_,rfl,ins_same _ _ _,?_⟩⟩,?_⟩
  ·simp[cellsN]
  ·rw[del_ne _ (fun e=>by subst e;rw[g3] at hO;injection hO with hO;injection hO with _ hO;exact absurd hO (by decide)),g3]
   simp
theorem GridO.mat {H O : PH} (hd:Dis H O) {b0 h:Nat} {us:List Value} {m:List (List (P4 × Int))} (g:GridO H O b0 h us m) (hl:us.length=h) :
 ∃ H' O',Repart H O H' O'∧MatH H' (.slice (some ⟨b0,0,none⟩) h h) m:=by
 have hO:=g.list
 rw[hl,Nat.sub_self,List.replicate_zero,List.append_nil] at hO
 have hs:=(Repart.one hd hO).sub
 have hm:=g.rows.1
 refine⟨_,_,.one hd hO,us,hm,⟨some ⟨b0,0,none⟩,h,by rw[← hm,hl],.inr ⟨b0,0,_,_,_,rfl,ins_same _ _ _,by simp⟩⟩,fun i r u hr hu=>(g.rows.2 i r u hr hu).up hs⟩
theorem errsE_at {F : Nat→Nat→(P4 × Int) × Int} {h w i k:Nat} (hi:i < h) (hk:k < w) :
 firstErr ((errsE F h w).drop (i*w+k))=if (F i k).2=0 then firstErr ((errsE F h w).drop (i*w+(k+1))) else (F i k).2:=by
 have hlt:i*w+k < h*w:=by
  have:=Nat.mul_le_mul_right w (show i+1≤h by omega)
  rw[Nat.succ_mul] at this
  omega
 have:=errsE_step (F:=F) hlt
 rw[(divmod hk).1,(divmod hk).2] at this
 exact this
theorem errsE_end {F : Nat→Nat→(P4 × Int) × Int} {h w:Nat}:firstErr ((errsE F h w).drop (h*w))=0:=by
 rw[List.drop_of_length_le (by simp[errsE])]
 rfl
theorem Rd_up {H H' O : PH} {a:Addr} {sz:Nat} {cs:List Value} (h:Rd H emp a sz cs) (hs:Sub H H'):Rd H' O a sz cs:=by
 obtain⟨h1,h2,c,t,fr,h | h,h3⟩:=h
 ·exact⟨h1,h2,c,t,fr,.inl (hs _ _ h),h3⟩
 ·cases h
theorem MatH.at {H : PH} {base:Option Addr} {n cap:Nat} {m:List (List (P4 × Int))} (h:MatH H (.slice base n cap) m) {i:Nat} (hi:i < m.length) :
 ∃ b off base' cap',base=some ⟨b,off,none⟩∧(∀ H' O,Sub H H'→Rd H' O ⟨b,off+i*1,none⟩ 1 [.slice base' m[i].length cap'])∧NumH H (.slice base' m[i].length cap') m[i]:=by
 obtain⟨b,off,base',cap',h1,h2,h3⟩:=h.rd (O:=emp) hi
 exact⟨b,off,base',cap',h1,fun _ _ hs=>Rd_up h2 hs,h3⟩
theorem NumH.at {H : PH} {base:Option Addr} {n cap:Nat} {l:List (P4 × Int)} (h:NumH H (.slice base n cap) l) {i:Nat} (hi:i < l.length) :
 ∃ b off,base=some ⟨b,off,none⟩∧∀ H' O,Sub H H'→Rd H' O ⟨b,off+i*5,none⟩ 5 (cellsOf l[i]):=by
 obtain⟨_,b,off,h1,h2⟩:=h.rd (O:=emp) hi
 exact⟨b,off,h1,fun _ _ hs=>Rd_up h2 hs⟩
abbrev Mx : Type:=List (List (P4 × Int))
def resM (e : Int) (F:Nat→Nat→(P4 × Int) × Int) (h w:Nat):Mx × Int:=
 if e ≠ 0 then ([],e) else if firstErr (errsE F h w) ≠ 0 then ([],firstErr (errsE F h w)) else (gridM F h w,0)
theorem resM_congr {e e' : Int} {F G:Nat→Nat→(P4 × Int) × Int} {h w:Nat} (h1:e=e') (h2:e=0→∀ i k,i < h→k < w→F i k=G i k):resM e F h w=resM e' G h w:=by
 subst h1
 unfold resM
 split
 ·rfl
 ·rename_i he
  obtain⟨e1,e2⟩:=grid_congr (h2 (by simpa using he))
  rw[e1,e2]
theorem resM_bad {e : Int} {F:Nat→Nat→(P4 × Int) × Int} {h w:Nat} (he:e ≠ 0):resM e F h w=([],e):=if_pos he
theorem resM_err {e : Int} {F:Nat→Nat→(P4 × Int) × Int} {h w:Nat} {x:Int} (he:e=0) (h1:firstErr (errsE F h w)=x) (hx:x ≠ 0):resM e F h w=([],x):=by
 unfold resM
 rw[if_neg (by simpa using he),if_pos (by rw[h1];exact hx),h1]
theorem resM_ok {e : Int} {F:Nat→Nat→(P4 × Int) × Int} {h w:Nat} (he:e=0) (h1:firstErr (errsE F h w)=0):resM e F h w=(gridM F h w,0):=by
 unfold resM
 rw[if_neg (by simpa using he),if_neg (by simpa using h1)]
def OutH (H : PH) (r:Value) (x:Mx × Int):Prop:=∃ u,r=.tuple #[u,.int .i64 x.2]∧MatH H u x.1
theorem OutH.bad {H : PH} {e:Int}:OutH H (.tuple #[.slice none 0 0,.int .i64 e]) ([],e):=⟨_,rfl,nilM H⟩
theorem OutH.up {H H' : PH} {r:Value} {x:Mx × Int} (h:OutH H r x) (hs:Sub H H'):OutH H' r x:=by
 obtain⟨u,h1,h2⟩:=h
 exact⟨u,h1,h2.up hs⟩
def gridRow (F : Nat→Nat→(P4 × Int) × Int) (i n:Nat):List (P4 × Int):=(List.range n).map fun k=>(F i k).1
theorem gridRow_succ (F : Nat→Nat→(P4 × Int) × Int) (i n:Nat):gridRow F i (n+1)=gridRow F i n++[(F i n).1]:=by
 unfold gridRow
 rw[List.range_succ,List.map_append]
 rfl
theorem gridM_succ (F : Nat→Nat→(P4 × Int) × Int) (n w:Nat):gridM F (n+1) w=gridM F n w++[gridRow F n w]:=by
 unfold gridM gridRow
 rw[List.range_succ,List.map_append]
 rfl
theorem OwnS.sl {O : PH} {sz:Nat} {t:TypeId} {v:Value} {xs:List (List Value)} (h:OwnS O sz t v xs):∃ base n cap,v=.slice base n cap:=by
 rcases h.2 with⟨h,_⟩ | ⟨b,cap,spare,h,_⟩
 ·exact⟨_,_,_,h⟩
 ·exact⟨_,_,_,h⟩
def bothErr (m n : Mx) (e:Int):Int:=if errsM [m,n] ≠ 0 then errsM [m,n] else e
def addErr (m n : Mx):Int:=bothErr m n (if alikeF m n then 0 else 7)
def addAtR (m n : Mx) (i k:Nat):(P4 × Int) × Int:=AddR (entry m i k) (entry n i k)
def AddMR (m n : Mx):Mx × Int:=resM (addErr m n) (addAtR m n) m.length (wideM m)
def polG : Tmp→Pol:=fun | 68=>.imm | _=>.loc
theorem c35 (m n : Mx) (H:PH) (u v:Value) (hu:MatH H u m) (hv:MatH H v n):Cl Tryz.prog 64 [u,v] H emp fun r H' _=>OutH H' r (AddMR m n):=by
 obtain⟨base,cap,rfl⟩:=hu.sl
 obtain⟨base',cap',rfl⟩:=hv.sl
 refine Cl_of (pol:=polG) Γok Tryz.func64 (by kernel_rfl) rfl ?_
 conv=>whnf
 refine (c95 m n _ _ _ hu hv).val fun H1 s1=>?_
 rw[bothR_eq]
 conv=>whnf
 refine if_intro (fun he=>?_) (fun he=>?_)
 ·conv=>whnf
  have he:errsM [m,n] ≠ 0:=by simpa using he
  unfold AddMR addErr bothErr
  rw[if_pos he,resM_bad he]
  exact OutH.bad
 have he:errsM [m,n]=0:=by simpa using he
 obtain⟨rm,rn⟩:=rights_of he
 conv=>whnf
 refine (c97 m n rm.pos rn.pos _ _ _ (hu.up s1) (hv.up s1)).val fun H2 s2=>?_
 conv=>whnf
 refine if_intro (fun ha=>?_) (fun ha=>?_)
 ·conv=>whnf
  have ha:alikeF m n=false:=by simpa using ha
  unfold AddMR addErr bothErr
  rw[if_neg (by simpa using he),ha,resM_bad (by decide)]
  exact OutH.bad
 have ha:alikeF m n=true:=by simpa using ha
 have hA:addErr m n=0:=by
  unfold addErr bothErr
  rw[if_neg (by simpa using he),ha]
  rfl
 obtain⟨e1,e2⟩:=alike_iff ha
 replace hu:=(hu.up s1).up s2
 replace hv:=(hv.up s1).up s2
 have hml:=rm.le
 have hwl:=rm.wle
 unfold AddMR
 generalize hF:addAtR m n=F
 conv=>whnf
 refine dec_intro (Int.le_refl _) ?_
 conv=>whnf
 refine dec_intro (by omega) ?_
 conv=>whnf
 refine dec_intro (by omega) ?_
 conv=>whnf
 intro b0 hb0 _
 conv=>whnf
 refine W_repart ?_
 refine W_loopX (pol:=polG) Γok (Nat × PH × List Value × PH) (fun i=>i.1≤m.length∧Sub H2 i.2.1∧firstErr (errsE F m.length (wideM m))=firstErr ((errsE F m.length (wideM m)).drop (i.1*wideM m))∧GridO i.2.1 i.2.2.2 b0 m.length i.2.2.1 (gridM F i.1 (wideM m))) (fun i=>m.length - i.1)
  (fun e i=>e=.exit 0∧Sub H2 i.2.1∧firstErr (errsE F m.length (wideM m))=0∧GridO i.2.1 i.2.2.2 b0 m.length i.2.2.1 (gridM F m.length (wideM m))) (fun i=>[(8,.v (.int .i64 i.1))]) (fun _=>[]) (fun i=>i.2.1) (fun i=>i.2.2.2) ⟨(0,H2,[],ins emp b0 (.cells ⟨(List.replicate m.length [Value.slice none 0 0]).flatten⟩ 22 (0,0))),⟨by simp,Sub.refl _,by simp,GridO.start b0 m.length emp⟩,rfl,rfl,?_⟩ ?_ ?_
 ·conv=>whnf
  repeat (refine⟨rfl,?_⟩;conv=>whnf)
  exact trivial
 ·rintro ⟨i,H',us,O'⟩ ⟨h1,h2,h3,h4⟩
  dsimp only at h1 h2 h3 h4
  conv=>whnf
  refine if_intro (fun h=>?_) (fun h=>?_)
  ·have hi:i < m.length:=by simpa using h
   have hus:us.length=i:=by rw[h4.rows.1];simp[gridM]
   obtain⟨b,off,bb,cc,rfl,hrd,hn⟩:=(hu.up h2).at hi
   have hwi:m[i].length=wideM m:=rm.row _ (List.getElem_mem hi)
   conv=>whnf
   refine W_repart ?_
   refine W_loopX (pol:=polG) Γok (Nat × PH × Value × PH) (fun k=>k.1≤wideM m∧Sub H' k.2.1∧firstErr (errsE F m.length (wideM m))=firstErr ((errsE F m.length (wideM m)).drop (i*wideM m+k.1))∧GridC k.2.1 k.2.2.2 b0 m.length us (gridM F i (wideM m)) k.2.2.1 (gridRow F i k.1)) (fun k=>wideM m - k.1)
    (fun e k=>e=.exit 2∧Sub H' k.2.1∧firstErr (errsE F m.length (wideM m))=firstErr ((errsE F m.length (wideM m)).drop ((i+1)*wideM m))∧GridC k.2.1 k.2.2.2 b0 m.length us (gridM F i (wideM m)) k.2.2.1 (gridRow F i (wideM m))) (fun k=>[(9,.v (.int .i64 k.1))]) (fun _=>[]) (fun k=>k.2.1) (fun k=>k.2.2.2) ⟨(0,H',.slice none 0 0,O'),⟨by simp,Sub.refl _,h3,h4.next (by omega)⟩,rfl,rfl,?_⟩ ?_ ?_
   ·conv=>whnf
    repeat (refine⟨rfl,?_⟩;conv=>whnf)
    exact trivial
   ·rintro ⟨k,H3,cur,O3⟩ ⟨k1,k2,k3,k4⟩
    dsimp only at k1 k2 k3 k4
    conv=>whnf
    refine dec_intro (by omega) ?_
    conv=>whnf
    refine⟨_,hrd _ _ k2,?_⟩
    conv=>whnf
    refine if_intro (fun h=>?_) (fun h=>?_)
    ·have hk:k < wideM m:=by rw[← hwi];simpa using h
     obtain⟨b1,off1,rfl,hx⟩:=hn.at (i:=k) (by omega)
     obtain⟨b2,off2,bb2,cc2,rfl,hrd2,hn2⟩:=(hv.up h2).at (i:=i) (by omega)
     have hwn:n[i].length=wideM n:=rn.row _ (List.getElem_mem _)
     obtain⟨b3,off3,rfl,hy⟩:=hn2.at (i:=k) (by omega)
     have hFik:F i k=AddR m[i][k] n[i][k]:=by
      rw[← hF]
      unfold addAtR
      rw[entry_get hi (by omega),entry_get (by omega) (by omega)]
     conv=>whnf
     refine W_draw (pol:=polG) Γok mixes [(0,.pendO),(1,.pendO),(2,.pendO),(3,.pendO),(4,.pendO),(5,.pendO),(6,.pendO),(7,.pendO),(8,.pendO),(9,.pendO),(10,.pendO),(11,.pendO),(12,.pendO),(13,.pendO),(14,.lock),(15,.pendO),(16,.pendO),(17,.pendH),(18,.late),(19,.lock),(20,.pendO)] 72 (by kernel_rfl) rfl ?_
     conv=>whnf
     refine dec_intro (by omega) ?_
     conv=>whnf
     refine⟨_,hrd _ _ k2,?_⟩
     conv=>whnf
     refine dec_intro (by omega) ?_
     conv=>whnf
     refine⟨_,hx _ _ k2,?_⟩
     conv=>whnf
     refine dec_intro (by omega) ?_
     conv=>whnf
     refine⟨_,hrd2 _ _ k2,?_⟩
     conv=>whnf
     refine dec_intro (by omega) ?_
     conv=>whnf
     refine⟨_,hy _ _ k2,?_⟩
     conv=>whnf
     refine (c105 m[i][k] n[i][k] _).val fun H4 s4=>?_
     rw[← hFik]
     conv=>whnf
     intro bx
     conv=>whnf
     refine if_intro (fun he=>?_) (fun he=>?_)
     ·conv=>whnf
      have he:(F i k).2 ≠ 0:=by simpa using he
      refine .inl (.inl ?_)
      conv=>whnf
      refine .inl (.inl ?_)
      conv=>whnf
      rw[resM_err hA (x:=(F i k).2) (by rw[k3,errsE_at hi hk,if_neg he]) he]
      exact OutH.bad
     have he:(F i k).2=0:=by simpa using he
     replace k4:=k4.up s4
     conv=>whnf
     refine W_draw (pol:=polG) Γok mixes [(0,.pendH),(1,.pendH),(2,.pendO),(3,.pendO),(4,.pendO),(5,.pendO),(6,.pendO),(7,.lock),(8,.lock),(9,.pendO),(10,.lock)] 72 (by kernel_rfl) rfl ?_
     conv=>whnf
     refine dec_intro (by omega) ?_
     conv=>whnf
     refine⟨_,k4.rd hus.symm,?_⟩
     conv=>whnf
     intro b5 hb5 hO5
     conv=>whnf
     refine append_one' (xs:=(gridRow F i k).map cellsOf) (y:=cellsOf (F i k).1) k4.row rfl rfl (cellsOf_one _) ⟨_,_,_,rfl,rfl,Rd.whole (ins_same _ _ _)⟩ ?_ fun v2 O4 hO4 hkeep=>?_
     ·simp[gridRow]
      omega
     obtain⟨vb,vn,vc,rfl⟩:=OwnS.sl hO4
     conv=>whnf
     refine dec_intro (by omega) ?_
     conv=>whnf
     obtain⟨cs,q1,q2,q3⟩:=k4.step (l':=gridRow F i (k+1)) hus.symm (by rw[gridRow_succ,NumO,List.map_append];exact hO4) hkeep
     refine⟨cs,_,q1,q2,?_⟩
     conv=>whnf
     have s5:=sub_ins H4 (.cells ⟨cellsOf (F i k).1⟩ 25 (0,0)) hb5
     refine⟨(k+1,ins H4 b5 (.cells ⟨cellsOf (F i k).1⟩ 25 (0,0)),.slice vb vn vc,_),⟨hk,k2.trans (s4.trans s5),?_,q3.up s5⟩,by dsimp only;omega,?_⟩
     ·rw[k3,errsE_at hi hk,if_pos he]
     ·conv=>whnf
      refine⟨rfl,rfl,?_⟩
      conv=>whnf
      repeat (refine⟨rfl,?_⟩;conv=>whnf)
      refine⟨by show En.v (.int .i64 (IntKind.i64.wrap (k+1)))=_;rw[wrap_id (by omega) (by omega)];rfl,?_⟩
      conv=>whnf
      repeat (refine⟨rfl,?_⟩;conv=>whnf)
      exact trivial
    ·have hk:wideM m=k:=by
      have:¬ k < m[i].length:=by simpa using h
      omega
     conv=>whnf
     refine .inr ⟨(k,H3,cur,O3),⟨rfl,k2,?_,?_⟩,?_⟩
     ·rw[k3,← hk,Nat.succ_mul]
     ·rw[← hk] at k4
      rw[← hk]
      exact k4
     ·conv=>whnf
      refine⟨rfl,rfl,?_⟩
      conv=>whnf
      repeat (refine⟨rfl,?_⟩;conv=>whnf)
      exact trivial
   ·rintro e ⟨k,H3,cur,O3⟩ ⟨rfl,k2,k3,k4⟩
    dsimp only at k2 k3 k4
    refine .inr fun hd=>?_
    obtain⟨H4,O4,rp,g4⟩:=k4.done hd
    refine⟨H4,O4,rp,?_⟩
    conv=>whnf
    refine⟨(i+1,H4,us++[cur],O4),⟨hi,h2.trans (k2.trans rp.sub),k3,?_⟩,by dsimp only;omega,?_⟩
    ·rw[gridM_succ];exact g4
    ·conv=>whnf
     refine⟨rfl,rfl,?_⟩
     conv=>whnf
     repeat (refine⟨rfl,?_⟩;conv=>whnf)
     refine⟨by show En.v (.int .i64 (IntKind.i64.wrap (i+1)))=_;rw[wrap_id (by omega) (by omega)];rfl,?_⟩
     conv=>whnf
     repeat (refine⟨rfl,?_⟩;conv=>whnf)
     exact trivial
  ·have hi:m.length=i:=by
    have:¬ i < m.length:=by simpa using h
    omega
   conv=>whnf
   refine .inr ⟨(i,H',us,O'),⟨rfl,h2,?_,?_⟩,?_⟩
   ·rw[h3,← hi,errsE_end]
   ·rw[← hi] at h4
    rw[← hi]
    exact h4
   ·conv=>whnf
    refine⟨rfl,rfl,?_⟩
    conv=>whnf
    repeat (refine⟨rfl,?_⟩;conv=>whnf)
    exact trivial
 ·rintro e ⟨i,H',us,O'⟩ ⟨rfl,h2,h3,h4⟩
  dsimp only at h2 h3 h4
  refine .inr fun hd=>?_
  obtain⟨H4,O4,rp,g4⟩:=h4.mat hd (by rw[h4.rows.1];simp[gridM])
  refine⟨H4,O4,rp,?_⟩
  conv=>whnf
  rw[resM_ok hA h3]
  exact⟨_,rfl,g4⟩
def colL (n : Mx) (k:Nat):List (P4 × Int):=n.map fun r=>atL r k
theorem c107 (m : Mx) (k:Nat) (hm:m.length < 1000000) (hk:∀ r∈m,k < r.length) (H:PH) (v:Value) (hv:MatH H v m):Cl Tryz.prog 123 [v,.int .i64 k] H emp fun r _ M'=>NumO M' r (colL m k):=by
 obtain⟨base,cap,rfl⟩:=hv.sl
 refine Cl_of (pol:=fun | 21=>.imm | _=>.loc) Γok Tryz.func123 (by kernel_rfl) rfl ?_
 conv=>whnf
 refine W_loop (pol:=fun | 21=>.imm | _=>.loc) Γok (Nat × PH × Value × PH) (fun i=>i.1≤m.length∧Sub H i.2.1∧NumO i.2.2.2 i.2.2.1 (colL (m.take i.1) k)) (fun i=>m.length - i.1) (fun i=>[(6,.v (.int .i64 i.1)),(5,.v i.2.2.1)]) (fun _=>[]) (fun i=>i.2.1) (fun i=>i.2.2.2) ⟨(0,H,.slice none 0 0,emp),⟨by simp,Sub.refl _,?_⟩,rfl,rfl,?_⟩ ?_
 ·exact⟨by simp[colL],.inl ⟨rfl,by simp[colL]⟩⟩
 ·conv=>whnf
  repeat (refine⟨rfl,?_⟩;conv=>whnf)
  exact trivial
 ·rintro ⟨i,H',out,O'⟩ ⟨h1,h2,h3⟩
  dsimp only at h1 h2 h3
  conv=>whnf
  refine if_intro (fun h=>?_) (fun h=>?_)
  ·have hi:i < m.length:=by simpa using h
   have hki:=hk _ (List.getElem_mem hi)
   obtain⟨b,off,bb,cc,rfl,hrd,hn⟩:=hv.at hi
   obtain⟨b1,off1,rfl,hx⟩:=hn.at hki
   conv=>whnf
   refine dec_intro (by omega) ?_
   conv=>whnf
   refine⟨_,hrd _ _ h2,?_⟩
   conv=>whnf
   refine dec_intro (by omega) ?_
   conv=>whnf
   refine⟨_,hx _ _ h2,?_⟩
   conv=>whnf
   intro b2 hb2 hO2
   conv=>whnf
   refine append_one (xs:=(colL (m.take i) k).map cellsOf) (y:=cellsOf m[i][k]) h3 rfl rfl (cellsOf_one _) ⟨_,_,_,rfl,rfl,Rd.whole (ins_same _ _ _)⟩ ?_ fun v O2 hO2 hfr=>?_
   ·have:(colL (m.take i) k).length≤m.length:=by simp[colL];omega
    simp only[List.length_map]
    omega
   conv=>whnf
   refine⟨(i+1,ins H' b2 (.cells ⟨cellsOf m[i][k]⟩ 25 (0,0)),v,O2),⟨hi,h2.trans (sub_ins _ _ hb2),?_⟩,by dsimp only;omega,?_⟩
   ·dsimp only
    rw[List.take_succ_eq_append_getElem hi]
    show OwnS O2 5 25 v ((colL (m.take i++[m[i]]) k).map cellsOf)
    simp only[colL,List.map_append,List.map_cons,List.map_nil,atL_get hki] at hO2 ⊢
    exact hO2
   ·conv=>whnf
    refine⟨rfl,rfl,?_⟩
    conv=>whnf
    repeat (refine⟨rfl,?_⟩;conv=>whnf)
    refine⟨by show En.v (.int .i64 (IntKind.i64.wrap (i+1)))=_;rw[wrap_id (by omega) (by omega)];rfl,?_⟩
    conv=>whnf
    repeat (refine⟨rfl,?_⟩;conv=>whnf)
    exact trivial
  ·have hi:m.length≤i:=by simpa using h
   conv=>whnf
   rw[List.take_of_length_le hi] at h3
   exact h3
theorem c107' (m : Mx) (k:Nat) (hm:m.length < 1000000) (hk:∀ r∈m,k < r.length) (H:PH) (v:Value) (hv:MatH H v m):Cl Tryz.prog 123 [v,.int .i64 k] H emp fun r H' _=>NumH H' r (colL m k):=
 (c107 m k hm hk H v hv).repart fun _ _ _ _ hd h=>by
  obtain⟨H',M',h1,h2⟩:=NumO.pub hd h
  exact⟨H',M',h1,h2⟩
def mulErr (m n : Mx):Int:=bothErr m n (if wideM m=n.length then 0 else 7)
def mulAtR (m n : Mx) (i k:Nat):(P4 × Int) × Int:=dotR (atL (m.getD i [])) (atL (colL n k)) (m.getD i []).length
def MulMR (m n : Mx):Mx × Int:=resM (mulErr m n) (mulAtR m n) m.length (wideM n)
theorem c36 (m n : Mx) (H:PH) (u v:Value) (hu:MatH H u m) (hv:MatH H v n):Cl Tryz.prog 60 [u,v] H emp fun r H' _=>OutH H' r (MulMR m n):=by
 obtain⟨base,cap,rfl⟩:=hu.sl
 obtain⟨base',cap',rfl⟩:=hv.sl
 refine Cl_of (pol:=(fun | 63=>.imm | _=>.loc)) Γok Tryz.func60 (by kernel_rfl) rfl ?_
 conv=>whnf
 refine (c95 m n _ _ _ hu hv).val fun H1 s1=>?_
 rw[bothR_eq]
 conv=>whnf
 refine if_intro (fun he=>?_) (fun he=>?_)
 ·conv=>whnf
  have he:errsM [m,n] ≠ 0:=by simpa using he
  unfold MulMR mulErr bothErr
  rw[if_pos he,resM_bad he]
  exact OutH.bad
 have he:errsM [m,n]=0:=by simpa using he
 obtain⟨rm,rn⟩:=rights_of he
 replace hu:=hu.up s1
 replace hv:=hv.up s1
 obtain⟨b,off,bb,cc,rfl,hrd0,_⟩:=hu.at rm.pos
 rw[← wideM_get rm.pos] at hrd0
 obtain⟨b',off',bb',cc',rfl,hrdn,_⟩:=hv.at rn.pos
 rw[← wideM_get rn.pos] at hrdn
 have hml:=rm.le
 have hwl:=rm.wle
 have hmp:=rm.pos
 have hnl:=rn.le
 have hnwl:=rn.wle
 have hnp:=rn.pos
 conv=>whnf
 refine dec_intro (by omega) ?_
 conv=>whnf
 refine⟨_,hrd0 _ _ (Sub.refl _),?_⟩
 conv=>whnf
 refine if_intro (fun hw=>?_) (fun hw=>?_)
 ·conv=>whnf
  have hw:wideM m ≠ n.length:=fun e=>by rw[e] at hw;simp at hw
  unfold MulMR mulErr bothErr
  rw[if_neg (by simpa using he),if_neg hw,resM_bad (by decide)]
  exact OutH.bad
 have hw:wideM m=n.length:=by
  have:((wideM m:Nat):Int)=n.length:=by simpa using hw
  omega
 have hA:mulErr m n=0:=by
  unfold mulErr bothErr
  rw[if_neg (by simpa using he),if_pos hw]
 unfold MulMR
 generalize hF:mulAtR m n=F
 conv=>whnf
 refine dec_intro (Int.le_refl _) ?_
 conv=>whnf
 refine dec_intro (by omega) ?_
 conv=>whnf
 refine dec_intro (by omega) ?_
 conv=>whnf
 intro b0 hb0 _
 conv=>whnf
 refine W_repart ?_
 refine W_loopX (pol:=(fun | 63=>.imm | _=>.loc)) Γok (Nat × PH × List Value × PH) (fun i=>i.1≤m.length∧Sub H1 i.2.1∧firstErr (errsE F m.length (wideM n))=firstErr ((errsE F m.length (wideM n)).drop (i.1*(wideM n)))∧GridO i.2.1 i.2.2.2 b0 m.length i.2.2.1 (gridM F i.1 (wideM n))) (fun i=>m.length - i.1)
  (fun e i=>e=.exit 0∧Sub H1 i.2.1∧firstErr (errsE F m.length (wideM n))=0∧GridO i.2.1 i.2.2.2 b0 m.length i.2.2.1 (gridM F m.length (wideM n))) (fun i=>[(8,.v (.int .i64 i.1))]) (fun _=>[]) (fun i=>i.2.1) (fun i=>i.2.2.2) ⟨(0,H1,[],ins emp b0 (.cells ⟨(List.replicate m.length [Value.slice none 0 0]).flatten⟩ 22 (0,0))),⟨by simp,Sub.refl _,by simp,GridO.start b0 m.length emp⟩,rfl,rfl,?_⟩ ?_ ?_
 ·conv=>whnf
  repeat (refine⟨rfl,?_⟩;conv=>whnf)
  exact trivial
 ·rintro ⟨i,H',us,O'⟩ ⟨h1,h2,h3,h4⟩
  dsimp only at h1 h2 h3 h4
  conv=>whnf
  refine if_intro (fun h=>?_) (fun h=>?_)
  ·have hi:i < m.length:=by simpa using h
   have hus:us.length=i:=by rw[h4.rows.1];simp[gridM]
   obtain⟨b2,off2,bb2,cc2,hbe,hrd,hn⟩:=(hu.up h2).at hi
   cases hbe
   have hwi:m[i].length=wideM m:=rm.row _ (List.getElem_mem hi)
   conv=>whnf
   refine W_repart ?_
   refine W_loopX (pol:=(fun | 63=>.imm | _=>.loc)) Γok (Nat × PH × Value × PH) (fun k=>k.1≤(wideM n)∧Sub H' k.2.1∧firstErr (errsE F m.length (wideM n))=firstErr ((errsE F m.length (wideM n)).drop (i*(wideM n)+k.1))∧GridC k.2.1 k.2.2.2 b0 m.length us (gridM F i (wideM n)) k.2.2.1 (gridRow F i k.1)) (fun k=>(wideM n) - k.1)
    (fun e k=>e=.exit 2∧Sub H' k.2.1∧firstErr (errsE F m.length (wideM n))=firstErr ((errsE F m.length (wideM n)).drop ((i+1)*(wideM n)))∧GridC k.2.1 k.2.2.2 b0 m.length us (gridM F i (wideM n)) k.2.2.1 (gridRow F i (wideM n))) (fun k=>[(9,.v (.int .i64 k.1))]) (fun _=>[]) (fun k=>k.2.1) (fun k=>k.2.2.2) ⟨(0,H',.slice none 0 0,O'),⟨by simp,Sub.refl _,h3,h4.next (by omega)⟩,rfl,rfl,?_⟩ ?_ ?_
   ·conv=>whnf
    repeat (refine⟨rfl,?_⟩;conv=>whnf)
    exact trivial
   ·rintro ⟨k,H3,cur,O3⟩ ⟨k1,k2,k3,k4⟩
    dsimp only at k1 k2 k3 k4
    conv=>whnf
    refine dec_intro (by omega) ?_
    conv=>whnf
    refine⟨_,hrdn _ _ (h2.trans k2),?_⟩
    conv=>whnf
    refine if_intro (fun h=>?_) (fun h=>?_)
    ·have hk:k < (wideM n):=by
      have:(k:Int) < (((wideM n):Nat):Int):=by simpa using h
      omega
     have hFik:F i k=dotR (atL m[i]) (atL (colL n k)) m[i].length:=by
      rw[← hF]
      unfold mulAtR
      rw[show m.getD i []=m[i] by simp[List.getD_eq_getElem?_getD,hi]]
     conv=>whnf
     refine W_draw (pol:=(fun | 63=>.imm | _=>.loc)) Γok mixes [(0,.pend),(1,.pend),(2,.pend),(3,.pend),(4,.pendO),(5,.pendO),(6,.lock),(7,.lock),(8,.pendO),(9,.pendO),(10,.pendH),(11,.late),(12,.lock),(13,.pendO)] 67 (by kernel_rfl) rfl ?_
     conv=>whnf
     refine dec_intro (by omega) ?_
     conv=>whnf
     refine⟨_,hrd _ _ k2,?_⟩
     conv=>whnf
     refine (c107' n k (by omega) (fun r hr=>by have:=rn.row r hr;omega) _ _ ((hv.up h2).up k2)).use fun col H4a s4a hcol=>?_
     obtain⟨_,hcol⟩:=hcol
     conv=>whnf
     refine (c106 m[i] (colL n k) (by omega) (by simp[colL];omega) _ _ _ ((hn.up k2).up s4a) hcol).val fun H4 s4b=>?_
     have s4:=s4a.trans s4b
     rw[← hFik]
     conv=>whnf
     intro bx
     conv=>whnf
     refine if_intro (fun he=>?_) (fun he=>?_)
     ·conv=>whnf
      have he:(F i k).2 ≠ 0:=by simpa using he
      refine .inl (.inl ?_)
      conv=>whnf
      refine .inl (.inl ?_)
      conv=>whnf
      rw[resM_err hA (x:=(F i k).2) (by rw[k3,errsE_at hi hk,if_neg he]) he]
      exact OutH.bad
     have he:(F i k).2=0:=by simpa using he
     replace k4:=k4.up s4
     conv=>whnf
     refine W_draw (pol:=(fun | 63=>.imm | _=>.loc)) Γok mixes [(0,.pendH),(1,.pendH),(2,.pendO),(3,.pendO),(4,.pendO),(5,.pendO),(6,.pendO),(7,.lock),(8,.lock),(9,.pendO),(10,.lock)] 67 (by kernel_rfl) rfl ?_
     conv=>whnf
     refine dec_intro (by omega) ?_
     conv=>whnf
     refine⟨_,k4.rd hus.symm,?_⟩
     conv=>whnf
     intro b5 hb5 hO5
     conv=>whnf
     refine append_one' (xs:=(gridRow F i k).map cellsOf) (y:=cellsOf (F i k).1) k4.row rfl rfl (cellsOf_one _) ⟨_,_,_,rfl,rfl,Rd.whole (ins_same _ _ _)⟩ ?_ fun v2 O4 hO4 hkeep=>?_
     ·simp[gridRow]
      omega
     obtain⟨vb,vn,vc,rfl⟩:=OwnS.sl hO4
     conv=>whnf
     refine dec_intro (by omega) ?_
     conv=>whnf
     obtain⟨cs,q1,q2,q3⟩:=k4.step (l':=gridRow F i (k+1)) hus.symm (by rw[gridRow_succ,NumO,List.map_append];exact hO4) hkeep
     refine⟨cs,_,q1,q2,?_⟩
     conv=>whnf
     have s5:=sub_ins H4 (.cells ⟨cellsOf (F i k).1⟩ 25 (0,0)) hb5
     refine⟨(k+1,ins H4 b5 (.cells ⟨cellsOf (F i k).1⟩ 25 (0,0)),.slice vb vn vc,_),⟨hk,k2.trans (s4.trans s5),?_,q3.up s5⟩,by dsimp only;omega,?_⟩
     ·rw[k3,errsE_at hi hk,if_pos he]
     ·conv=>whnf
      refine⟨rfl,rfl,?_⟩
      conv=>whnf
      repeat (refine⟨rfl,?_⟩;conv=>whnf)
      refine⟨by show En.v (.int .i64 (IntKind.i64.wrap (k+1)))=_;rw[wrap_id (by omega) (by omega)];rfl,?_⟩
      conv=>whnf
      repeat (refine⟨rfl,?_⟩;conv=>whnf)
      exact trivial
    ·have hk:(wideM n)=k:=by
      have:¬ (k:Int) < (((wideM n):Nat):Int):=by simpa using h
      omega
     conv=>whnf
     refine .inr ⟨(k,H3,cur,O3),⟨rfl,k2,?_,?_⟩,?_⟩
     ·rw[k3,← hk,Nat.succ_mul]
     ·rw[← hk] at k4
      rw[← hk]
      exact k4
     ·conv=>whnf
      refine⟨rfl,rfl,?_⟩
      conv=>whnf
      repeat (refine⟨rfl,?_⟩;conv=>whnf)
      exact trivial
   ·rintro e ⟨k,H3,cur,O3⟩ ⟨rfl,k2,k3,k4⟩
    dsimp only at k2 k3 k4
    refine .inr fun hd=>?_
    obtain⟨H4,O4,rp,g4⟩:=k4.done hd
    refine⟨H4,O4,rp,?_⟩
    conv=>whnf
    refine⟨(i+1,H4,us++[cur],O4),⟨hi,h2.trans (k2.trans rp.sub),k3,?_⟩,by dsimp only;omega,?_⟩
    ·rw[gridM_succ];exact g4
    ·conv=>whnf
     refine⟨rfl,rfl,?_⟩
     conv=>whnf
     repeat (refine⟨rfl,?_⟩;conv=>whnf)
     refine⟨by show En.v (.int .i64 (IntKind.i64.wrap (i+1)))=_;rw[wrap_id (by omega) (by omega)];rfl,?_⟩
     conv=>whnf
     repeat (refine⟨rfl,?_⟩;conv=>whnf)
     exact trivial
  ·have hi:m.length=i:=by
    have:¬ (i:Int) < ((m.length:Nat):Int):=by simpa using h
    omega
   conv=>whnf
   refine .inr ⟨(i,H',us,O'),⟨rfl,h2,?_,?_⟩,?_⟩
   ·rw[h3,← hi,errsE_end]
   ·rw[← hi] at h4
    rw[← hi]
    exact h4
   ·conv=>whnf
    refine⟨rfl,rfl,?_⟩
    conv=>whnf
    repeat (refine⟨rfl,?_⟩;conv=>whnf)
    exact trivial
 ·rintro e ⟨i,H',us,O'⟩ ⟨rfl,h2,h3,h4⟩
  dsimp only at h2 h3 h4
  refine .inr fun hd=>?_
  obtain⟨H4,O4,rp,g4⟩:=h4.mat hd (by rw[h4.rows.1];simp[gridM])
  refine⟨H4,O4,rp,?_⟩
  conv=>whnf
  rw[resM_ok hA h3]
  exact⟨_,rfl,g4⟩
def kronErr (m n : Mx):Int:=bothErr m n (if m.length*n.length≤64∧wideM m*wideM n≤64 then 0 else 2)
def kronAtR (m n : Mx) (i k:Nat):(P4 × Int) × Int:=MulR (entry m (i / n.length) (k / wideM n)) (entry n (i % n.length) (k % wideM n))
def KronMR (m n : Mx):Mx × Int:=resM (kronErr m n) (kronAtR m n) (m.length*n.length) (wideM m*wideM n)
set_option maxHeartbeats 2000000 in
theorem c37 (m n : Mx) (H:PH) (u v:Value) (hu:MatH H u m) (hv:MatH H v n):Cl Tryz.prog 125 [u,v] H emp fun r H' _=>OutH H' r (KronMR m n):=by
 obtain⟨base,cap,rfl⟩:=hu.sl
 obtain⟨base',cap',rfl⟩:=hv.sl
 refine Cl_of (pol:=(fun | 105=>.imm | _=>.loc)) Γok Tryz.func125 (by kernel_rfl) rfl ?_
 conv=>whnf
 refine (c95 m n _ _ _ hu hv).val fun H1 s1=>?_
 rw[bothR_eq]
 conv=>whnf
 refine if_intro (fun he=>?_) (fun he=>?_)
 ·conv=>whnf
  have he:errsM [m,n] ≠ 0:=by simpa using he
  unfold KronMR kronErr bothErr
  rw[if_pos he,resM_bad he]
  exact OutH.bad
 have he:errsM [m,n]=0:=by simpa using he
 obtain⟨rm,rn⟩:=rights_of he
 replace hu:=hu.up s1
 replace hv:=hv.up s1
 obtain⟨b,off,bb,cc,rfl,hrd0,_⟩:=hu.at rm.pos
 rw[← wideM_get rm.pos] at hrd0
 obtain⟨b',off',bb',cc',rfl,hrdn,_⟩:=hv.at rn.pos
 rw[← wideM_get rn.pos] at hrdn
 have hml:=rm.le
 have hwl:=rm.wle
 have hmp:=rm.pos
 have hnl:=rn.le
 have hnwl:=rn.wle
 have hnp:=rn.pos
 have hnwp:=rn.wpos
 have p1:m.length*n.length≤64*64:=Nat.mul_le_mul rm.le rn.le
 have p2:wideM m*wideM n≤64*64:=Nat.mul_le_mul rm.wle rn.wle
 have wq:∀ q:Nat,q < 65→IntKind.i64.wrap (q:Int)=q:=fun q h=>wrap_id (by omega) (by omega)
 unfold KronMR
 generalize hF:kronAtR m n=F
 obtain⟨hg,hhg⟩:∃ x,x=m.length*n.length:=⟨_,rfl⟩
 obtain⟨wg,hwg⟩:∃ x,x=wideM m*wideM n:=⟨_,rfl⟩
 rw[← hhg,← hwg]
 have q1:IntKind.i64.wrap ((m.length:Int)*(n.length:Int))=(hg:Int):=by
  rw[← Int.natCast_mul,← hhg];exact wrap_id (by omega) (by omega)
 have q2:IntKind.i64.wrap ((wideM m:Int)*(wideM n:Int))=(wg:Int):=by
  rw[← Int.natCast_mul,← hwg];exact wrap_id (by omega) (by omega)
 rw[← hhg] at p1
 rw[← hwg] at p2
 conv=>whnf
 refine W_draw (pol:=(fun | 105=>.imm | _=>.loc)) Γok mixes [(0,.pendO),(1,.pendO),(2,.pendO),(3,.pendO),(4,.pendO),(5,.pendO),(6,.pendO),(7,.pendO),(8,.pendO),(9,.pendO),(10,.pendO),(11,.pendO),(12,.pendO),(13,.pendO),(14,.pendO),(15,.pendO),(16,.pendO),(17,.pendO)] 109 (by kernel_rfl) rfl ?_
 conv=>whnf
 rw[q1]
 refine if_intro (fun h64=>?_) (fun h64=>?_)
 ·conv=>whnf
  have h64:¬ hg≤64:=by have:=of_decide_eq_true h64;omega
  unfold kronErr bothErr
  rw[if_neg (by simpa using he),if_neg (by rw[← hhg];exact fun h=>h64 h.1),resM_bad (by decide)]
  exact OutH.bad
 have h64:hg≤64:=by have:=of_decide_eq_false h64;omega
 conv=>whnf
 refine dec_intro (by omega) ?_
 conv=>whnf
 refine⟨_,hrd0 _ _ (Sub.refl _),?_⟩
 conv=>whnf
 refine dec_intro (by omega) ?_
 conv=>whnf
 refine⟨_,hrdn _ _ (Sub.refl _),?_⟩
 conv=>whnf
 rw[q2]
 refine if_intro (fun h65=>?_) (fun h65=>?_)
 ·conv=>whnf
  have h65:¬ wg≤64:=by have:=of_decide_eq_true h65;omega
  unfold kronErr bothErr
  rw[if_neg (by simpa using he),if_neg (by rw[← hwg];exact fun h=>h65 h.2),resM_bad (by decide)]
  exact OutH.bad
 have h65:wg≤64:=by have:=of_decide_eq_false h65;omega
 have hA:kronErr m n=0:=by
  unfold kronErr bothErr
  rw[if_neg (by simpa using he),if_pos (by rw[← hhg,← hwg];exact⟨h64,h65⟩)]
 conv=>whnf
 rw[q1]
 refine dec_intro (by omega) ?_
 conv=>whnf
 refine dec_intro (by omega) ?_
 conv=>whnf
 refine dec_intro (by omega) ?_
 conv=>whnf
 intro b0 hb0 _
 conv=>whnf
 refine W_repart ?_
 refine W_loopX (pol:=(fun | 105=>.imm | _=>.loc)) Γok (Nat × PH × List Value × PH) (fun i=>i.1≤hg∧Sub H1 i.2.1∧firstErr (errsE F hg wg)=firstErr ((errsE F hg wg).drop (i.1*wg))∧GridO i.2.1 i.2.2.2 b0 hg i.2.2.1 (gridM F i.1 wg)) (fun i=>hg - i.1)
  (fun e i=>e=.exit 0∧Sub H1 i.2.1∧firstErr (errsE F hg wg)=0∧GridO i.2.1 i.2.2.2 b0 hg i.2.2.1 (gridM F hg wg)) (fun i=>[(8,.v (.int .i64 i.1))]) (fun _=>[]) (fun i=>i.2.1) (fun i=>i.2.2.2) ⟨(0,H1,[],ins emp b0 (.cells ⟨(List.replicate hg [Value.slice none 0 0]).flatten⟩ 22 (0,0))),⟨by simp,Sub.refl _,by simp,GridO.start b0 hg emp⟩,rfl,rfl,?_⟩ ?_ ?_
 ·conv=>whnf
  repeat (refine⟨rfl,?_⟩;conv=>whnf)
  exact trivial
 ·rintro ⟨i,H',us,O'⟩ ⟨h1,h2,h3,h4⟩
  dsimp only at h1 h2 h3 h4
  conv=>whnf
  refine if_intro (fun h=>?_) (fun h=>?_)
  ·have hi:i < hg:=by simpa using h
   have hus:us.length=i:=by rw[h4.rows.1];simp[gridM]
   have i1:i / n.length < m.length:=Nat.div_lt_of_lt_mul (by rw[Nat.mul_comm,← hhg];exact hi)
   have i2:i % n.length < n.length:=Nat.mod_lt _ hnp
   obtain⟨b1,off1,bb1,cc1,hbe,hrd1,hn1⟩:=(hu.up h2).at i1
   cases hbe
   obtain⟨b2,off2,bb2,cc2,hbe,hrd2,hn2⟩:=(hv.up h2).at i2
   cases hbe
   have r1:m[i / n.length].length=wideM m:=rm.row _ (List.getElem_mem i1)
   have r2:n[i % n.length].length=wideM n:=rn.row _ (List.getElem_mem i2)
   have q3:IntKind.i64.wrap ((i:Int).tdiv (n.length:Int))=((i / n.length:Nat):Int):=by
    rw[Int.tdiv_eq_ediv_of_nonneg (by omega),← Int.natCast_ediv];exact wq _ (by omega)
   have q5:((i:Int).tmod (n.length:Int))=((i % n.length:Nat):Int):=by rw[Int.tmod_eq_emod_of_nonneg (by omega)];rfl
   conv=>whnf
   refine W_repart ?_
   refine W_loopX (pol:=(fun | 105=>.imm | _=>.loc)) Γok (Nat × PH × Value × PH) (fun k=>k.1≤wg∧Sub H' k.2.1∧firstErr (errsE F hg wg)=firstErr ((errsE F hg wg).drop (i*wg+k.1))∧GridC k.2.1 k.2.2.2 b0 hg us (gridM F i wg) k.2.2.1 (gridRow F i k.1)) (fun k=>wg - k.1)
    (fun e k=>e=.exit 2∧Sub H' k.2.1∧firstErr (errsE F hg wg)=firstErr ((errsE F hg wg).drop ((i+1)*wg))∧GridC k.2.1 k.2.2.2 b0 hg us (gridM F i wg) k.2.2.1 (gridRow F i wg)) (fun k=>[(9,.v (.int .i64 k.1))]) (fun _=>[]) (fun k=>k.2.1) (fun k=>k.2.2.2) ⟨(0,H',.slice none 0 0,O'),⟨by simp,Sub.refl _,h3,h4.next (by omega)⟩,rfl,rfl,?_⟩ ?_ ?_
   ·conv=>whnf
    repeat (refine⟨rfl,?_⟩;conv=>whnf)
    exact trivial
   ·rintro ⟨k,H3,cur,O3⟩ ⟨k1,k2,k3,k4⟩
    dsimp only at k1 k2 k3 k4
    conv=>whnf
    refine W_draw (pol:=(fun | 105=>.imm | _=>.loc)) Γok mixes [(0,.pendO),(1,.pendO),(2,.pendO),(3,.pendO),(4,.pendO),(5,.pendO),(6,.pendO),(7,.pendO),(8,.pendO),(9,.pendO),(10,.pendO)] 109 (by kernel_rfl) rfl ?_
    conv=>whnf
    refine dec_intro (by omega) ?_
    conv=>whnf
    refine⟨_,hrd0 _ _ (h2.trans k2),?_⟩
    conv=>whnf
    refine dec_intro (by omega) ?_
    conv=>whnf
    refine⟨_,hrdn _ _ (h2.trans k2),?_⟩
    conv=>whnf
    rw[q2]
    conv=>whnf
    refine if_intro (fun h=>?_) (fun h=>?_)
    ·have hk:k < wg:=by
      have:(k:Int) < ((wg:Nat):Int):=by simpa using h
      omega
     have kk1:k / wideM n < wideM m:=Nat.div_lt_of_lt_mul (by rw[Nat.mul_comm,← hwg];exact hk)
     have kk2:k % wideM n < wideM n:=Nat.mod_lt _ hnwp
     obtain⟨b3,off3,rfl,hx⟩:=hn1.at (i:=k / wideM n) (by omega)
     obtain⟨b4,off4,rfl,hy⟩:=hn2.at (i:=k % wideM n) (by omega)
     have q4:IntKind.i64.wrap ((k:Int).tdiv (wideM n:Int))=((k / wideM n:Nat):Int):=by
      rw[Int.tdiv_eq_ediv_of_nonneg (by omega),← Int.natCast_ediv];exact wq _ (by omega)
     have q6:((k:Int).tmod (wideM n:Int))=((k % wideM n:Nat):Int):=by rw[Int.tmod_eq_emod_of_nonneg (by omega)];rfl
     have hFik:F i k=MulR m[i / n.length][k / wideM n] n[i % n.length][k % wideM n]:=by
      rw[← hF]
      unfold kronAtR
      rw[entry_get i1 (by omega),entry_get i2 (by omega)]
     conv=>whnf
     refine W_draw (pol:=(fun | 105=>.imm | _=>.loc)) Γok mixes [(0,.pendO),(1,.pendO),(2,.pendO),(3,.pendO),(4,.pendO),(5,.pendO),(6,.pendO),(7,.pendO),(8,.pendO),(9,.pendO),(10,.pendO),(11,.pendO),(12,.pendO),(13,.pendO),(14,.pendO),(15,.pendO),(16,.pendO),(17,.pendO),(18,.pendO),(19,.pendO),(20,.pendO),(21,.pendO),(22,.pendO),(23,.pendO),(24,.pendO),(25,.pendO),(26,.pendO),(27,.pendO),(28,.pendO),(29,.pendO),(30,.lock),(31,.pendO),(32,.pendO),(33,.pendH),(34,.late),(35,.lock),(36,.pendO)] 109 (by kernel_rfl) rfl ?_
     conv=>whnf
     refine dec_intro (by omega) ?_
     conv=>whnf
     rw[q3]
     conv=>whnf
     refine dec_intro (by omega) ?_
     conv=>whnf
     refine⟨_,hrd1 _ _ k2,?_⟩
     conv=>whnf
     refine dec_intro (by omega) ?_
     conv=>whnf
     refine⟨_,hrdn _ _ (h2.trans k2),?_⟩
     conv=>whnf
     refine dec_intro (by omega) ?_
     conv=>whnf
     rw[q4]
     conv=>whnf
     refine dec_intro (by omega) ?_
     conv=>whnf
     refine⟨_,hx _ _ k2,?_⟩
     conv=>whnf
     refine dec_intro (by omega) ?_
     conv=>whnf
     rw[q5]
     conv=>whnf
     refine dec_intro (by omega) ?_
     conv=>whnf
     refine⟨_,hrd2 _ _ k2,?_⟩
     conv=>whnf
     refine dec_intro (by omega) ?_
     conv=>whnf
     refine⟨_,hrdn _ _ (h2.trans k2),?_⟩
     conv=>whnf
     refine dec_intro (by omega) ?_
     conv=>whnf
     rw[q6]
     conv=>whnf
     refine dec_intro (by omega) ?_
     conv=>whnf
     refine⟨_,hy _ _ k2,?_⟩
     conv=>whnf
     refine (c98 m[i / n.length][k / wideM n] n[i % n.length][k % wideM n] _).val fun H4 s4=>?_
     rw[← hFik]
     conv=>whnf
     intro bx
     conv=>whnf
     refine if_intro (fun he=>?_) (fun he=>?_)
     ·conv=>whnf
      have he:(F i k).2 ≠ 0:=by simpa using he
      refine .inl (.inl ?_)
      conv=>whnf
      refine .inl (.inl ?_)
      conv=>whnf
      rw[resM_err hA (x:=(F i k).2) (by rw[k3,errsE_at hi hk,if_neg he]) he]
      exact OutH.bad
     have he:(F i k).2=0:=by simpa using he
     replace k4:=k4.up s4
     conv=>whnf
     refine W_draw (pol:=(fun | 105=>.imm | _=>.loc)) Γok mixes [(0,.pendH),(1,.pendH),(2,.pendO),(3,.pendO),(4,.pendO),(5,.pendO),(6,.pendO),(7,.lock),(8,.lock),(9,.pendO),(10,.lock)] 109 (by kernel_rfl) rfl ?_
     conv=>whnf
     refine dec_intro (by omega) ?_
     conv=>whnf
     refine⟨_,k4.rd hus.symm,?_⟩
     conv=>whnf
     intro b5 hb5 hO5
     conv=>whnf
     refine append_one' (xs:=(gridRow F i k).map cellsOf) (y:=cellsOf (F i k).1) k4.row rfl rfl (cellsOf_one _) ⟨_,_,_,rfl,rfl,Rd.whole (ins_same _ _ _)⟩ ?_ fun v2 O4 hO4 hkeep=>?_
     ·simp[gridRow]
      omega
     obtain⟨vb,vn,vc,rfl⟩:=OwnS.sl hO4
     conv=>whnf
     refine dec_intro (by omega) ?_
     conv=>whnf
     obtain⟨cs,q1,q2,q3⟩:=k4.step (l':=gridRow F i (k+1)) hus.symm (by rw[gridRow_succ,NumO,List.map_append];exact hO4) hkeep
     refine⟨cs,_,q1,q2,?_⟩
     conv=>whnf
     have s5:=sub_ins H4 (.cells ⟨cellsOf (F i k).1⟩ 25 (0,0)) hb5
     refine⟨(k+1,ins H4 b5 (.cells ⟨cellsOf (F i k).1⟩ 25 (0,0)),.slice vb vn vc,_),⟨hk,k2.trans (s4.trans s5),?_,q3.up s5⟩,by dsimp only;omega,?_⟩
     ·rw[k3,errsE_at hi hk,if_pos he]
     ·conv=>whnf
      refine⟨rfl,rfl,?_⟩
      conv=>whnf
      repeat (refine⟨rfl,?_⟩;conv=>whnf)
      refine⟨by show En.v (.int .i64 (IntKind.i64.wrap (k+1)))=_;rw[wrap_id (by omega) (by omega)];rfl,?_⟩
      conv=>whnf
      repeat (refine⟨rfl,?_⟩;conv=>whnf)
      exact trivial
    ·have hk:wg=k:=by
      have:¬ (k:Int) < ((wg:Nat):Int):=by simpa using h
      omega
     conv=>whnf
     refine .inr ⟨(k,H3,cur,O3),⟨rfl,k2,?_,?_⟩,?_⟩
     ·rw[k3,← hk,Nat.succ_mul]
     ·rw[← hk] at k4
      rw[← hk]
      exact k4
     ·conv=>whnf
      refine⟨rfl,rfl,?_⟩
      conv=>whnf
      repeat (refine⟨rfl,?_⟩;conv=>whnf)
      exact trivial
   ·rintro e ⟨k,H3,cur,O3⟩ ⟨rfl,k2,k3,k4⟩
    dsimp only at k2 k3 k4
    refine .inr fun hd=>?_
    obtain⟨H4,O4,rp,g4⟩:=k4.done hd
    refine⟨H4,O4,rp,?_⟩
    conv=>whnf
    refine⟨(i+1,H4,us++[cur],O4),⟨hi,h2.trans (k2.trans rp.sub),k3,?_⟩,by dsimp only;omega,?_⟩
    ·rw[gridM_succ];exact g4
    ·conv=>whnf
     refine⟨rfl,rfl,?_⟩
     conv=>whnf
     repeat (refine⟨rfl,?_⟩;conv=>whnf)
     refine⟨by show En.v (.int .i64 (IntKind.i64.wrap (i+1)))=_;rw[wrap_id (by omega) (by omega)];rfl,?_⟩
     conv=>whnf
     repeat (refine⟨rfl,?_⟩;conv=>whnf)
     exact trivial
  ·have hi:hg=i:=by
    have:¬ (i:Int) < ((hg:Nat):Int):=by simpa using h
    omega
   conv=>whnf
   refine .inr ⟨(i,H',us,O'),⟨rfl,h2,?_,?_⟩,?_⟩
   ·rw[h3,← hi,errsE_end]
   ·rw[← hi] at h4
    rw[← hi]
    exact h4
   ·conv=>whnf
    refine⟨rfl,rfl,?_⟩
    conv=>whnf
    repeat (refine⟨rfl,?_⟩;conv=>whnf)
    exact trivial
 ·rintro e ⟨i,H',us,O'⟩ ⟨rfl,h2,h3,h4⟩
  dsimp only at h2 h3 h4
  refine .inr fun hd=>?_
  obtain⟨H4,O4,rp,g4⟩:=h4.mat hd (by rw[h4.rows.1];simp[gridM])
  refine⟨H4,O4,rp,?_⟩
  conv=>whnf
  rw[resM_ok hA h3]
  exact⟨_,rfl,g4⟩
theorem one_row {H : PH} {b:Nat} {l:List (P4 × Int)} {t:TypeId} (hb:H b=some (.cells ⟨cellsN l⟩ t (0,0))) {n:Nat} (hn:n=l.length):NumH H (.slice (some ⟨b,0,none⟩) n n) l:=by
 subst hn
 exact⟨_,_,rfl,.inr ⟨b,0,_,_,_,rfl,hb,by simp⟩⟩
def ScaleMR (m : Mx) (x:P4 × Int):Mx × Int:=if checkMR m ≠ 0 then ([],checkMR m) else if checkR x.1 x.2 ≠ 0 then ([],checkR x.1 x.2) else KronMR m [[x]]
theorem c38 (m : Mx) (x:P4 × Int) (H:PH) (u:Value) (hu:MatH H u m):Cl Tryz.prog 62 [u,nv x] H emp fun r H' _=>OutH H' r (ScaleMR m x):=by
 obtain⟨base,cap,rfl⟩:=hu.sl
 refine Cl_of (pol:=fun | 20=>.imm | 21=>.imm | _=>.loc) Γok Tryz.func62 (by kernel_rfl) rfl ?_
 conv=>whnf
 intro bx
 conv=>whnf
 unfold ScaleMR
 refine (c30 m _ _ hu).val fun H1 s1=>?_
 conv=>whnf
 refine if_intro (fun he=>?_) (fun he=>?_)
 ·conv=>whnf
  rw[if_pos (show checkMR m ≠ 0 by simpa using he)]
  exact OutH.bad
 have he:checkMR m=0:=by simpa using he
 rw[if_neg (by simpa using he)]
 conv=>whnf
 refine (c108 x.1 x.2 _).val fun H2 s2=>?_
 conv=>whnf
 refine if_intro (fun he2=>?_) (fun he2=>?_)
 ·conv=>whnf
  rw[if_pos (show checkR x.1 x.2 ≠ 0 by simpa using he2)]
  exact OutH.bad
 have he2:checkR x.1 x.2=0:=by simpa using he2
 rw[if_neg (by simpa using he2)]
 replace hu:=(hu.up s1).up s2
 conv=>whnf
 intro b1 hb1 _
 conv=>whnf
 intro b2 hb2 _
 conv=>whnf
 have s3:=sub_ins H2 (.cells ⟨cellsOf x⟩ 25 (0,0)) hb1
 have s4:=sub_ins _ (.cells ⟨[.slice (some ⟨b1,0,none⟩) 1 1]⟩ 22 (0,0)) hb2
 refine (c37 m [[x]] _ _ _ ((hu.up s3).up s4) (one_mat (ins_same _ _ _) (one_row (t:=25) (l:=[x]) (by rw[show cellsN [x]=cellsOf x by simp[cellsN]];exact s4 _ _ (ins_same _ _ _)) rfl))).mono fun r H3 M3 s5 hr=>?_
 obtain⟨a,rfl,ha⟩:=hr
 conv=>whnf
 exact⟨a,rfl,ha⟩
def OwnQ (M : PH) (u:Value) (x:Mx):Prop:=(u=.slice none 0 0∧x=[])∨∃ h w,h < 1000000∧w < 1000000∧OwnM M u h w x
def OutO (M : PH) (r:Value) (x:Mx × Int):Prop:=∃ u,r=.tuple #[u,.int .i64 x.2]∧OwnQ M u x.1
theorem OutO.bad {M : PH} {e:Int}:OutO M (.tuple #[.slice none 0 0,.int .i64 e]) ([],e):=⟨_,rfl,.inl ⟨rfl,rfl⟩⟩
theorem OwnQ.up {M M' : PH} {u:Value} {x:Mx} (h:OwnQ M u x) (hs:Sub M M'):OwnQ M' u x:=by
 rcases h with h | ⟨a,b,h1,h2,h3⟩
 ·exact .inl h
 ·exact .inr ⟨a,b,h1,h2,h3.up hs⟩
theorem OwnQ.share {H M : PH} (hd:Dis H M) {u:Value} {x:Mx} (h:OwnQ M u x):MatH (un H M) u x:=by
 rcases h with⟨rfl,rfl⟩ | ⟨a,b,h1,h2,h3⟩
 ·exact nilM _
 ·exact h3.share hd
theorem MadeE.out {F : Nat→Nat→(P4 × Int) × Int} {h w:Nat} {r:Value} {M:PH} (hh:h < 1000000) (hw:w < 1000000) (m:MadeE F h w r M) {e:Int} (he:e=0):OutO M r (resM e F h w):=by
 rcases m with⟨h1,rfl⟩ | ⟨h1,u,rfl,h2⟩
 ·rw[resM_err he rfl h1]
  exact OutO.bad
 ·rw[resM_ok he h1]
  rw[fills_grid] at h2
  exact⟨u,rfl,.inr ⟨h,w,hh,hw,h2⟩⟩
theorem OutO.pub {H M : PH} (hd:Dis H M) {r:Value} {x:Mx × Int} (h:OutO M r x):OutH (un H M) r x:=by
 obtain⟨u,h1,h2⟩:=h
 exact⟨u,h1,h2.share hd⟩
theorem Cl.outH {f : FuncId} {args:List Value} {H:PH} {x:Mx × Int} (h:Cl Tryz.prog f args H emp fun r _ M'=>OutO M' r x):Cl Tryz.prog f args H emp fun r H' _=>OutH H' r x:=
 h.repart fun _ _ _ _ hd ho=>⟨_,_,.all hd,ho.pub hd⟩
def addAt (m n : Mx) (i k:Nat):(P4 × Int) × Int:=AddF (entry m i k) (entry n i k)
def AddMF (m n : Mx):Mx × Int:=resM (addErr m n) (addAt m n) m.length (wideM m)
theorem c109 (m n : Mx) (i k:Nat) (hi:i < m.length) (hk:k < m[i].length) (hi':i < n.length) (hk':k < n[i].length) (H:PH) (u v:Value) (bm bn:Nat) (t t':TypeId) (hu:MatH H u m) (hv:MatH H v n) (hbm:H bm=some (.cells ⟨[u]⟩ t (0,0))) (hbn:H bn=some (.cells ⟨[v]⟩ t' (0,0))) :
 Cl Tryz.prog 144 [place i k,.pointer (some ⟨bm,0,none⟩),.pointer (some ⟨bn,0,none⟩)] H emp fun r _ _=>r=ne (AddF m[i][k] n[i][k]):=by
 obtain⟨base,cap,rfl⟩:=hu.sl
 obtain⟨base',cap',rfl⟩:=hv.sl
 refine Cl_of (pol:=polL) Γok Tryz.func144 (by kernel_rfl) rfl ?_
 conv=>whnf
 repeat (intro _;conv=>whnf)
 refine W_draw (pol:=polL) Γok mixes [(0,.pendO),(1,.pendO),(3,.pend),(4,.pend),(2,.lock),(5,.lock),(6,.lock),(7,.pendO),(8,.pendO),(9,.lock),(10,.pendO)] 15 (by kernel_rfl) rfl ?_
 conv=>whnf
 refine⟨_,Rd.whole hbm,?_⟩
 conv=>whnf
 refine⟨_,Rd.whole hbn,?_⟩
 conv=>whnf
 refine (c84 m i k hi hk _ _ hu).val fun H1 s1=>?_
 conv=>whnf
 refine (c84 n i k hi' hk' _ _ (hv.up s1)).val fun H2 s2=>?_
 conv=>whnf
 refine (c110 m[i][k] n[i][k] _).val fun H3 s3=>?_
 conv=>whnf
 rfl
theorem c39 (m n : Mx) (hlm:m.length < 1000000) (hln:n.length < 1000000) (H:PH) (u v:Value) (hu:MatH H u m) (hv:MatH H v n):Cl Tryz.prog 75 [u,v] H emp fun r _ M'=>OutO M' r (AddMF m n):=by
 obtain⟨base,cap,rfl⟩:=hu.sl
 obtain⟨base',cap',rfl⟩:=hv.sl
 refine Cl_of (pol:=fun | 2=>.imm | 3=>.imm | 9=>.imm | _=>.loc) Γok Tryz.func75 (by kernel_rfl) rfl ?_
 conv=>whnf
 intro bm hbm _
 conv=>whnf
 intro bn hbn _
 conv=>whnf
 intro b hb _
 conv=>whnf
 have s1:=sub_ins H (.cells ⟨[.slice base m.length cap]⟩ 23 (0,0)) hbm
 have s2:=sub_ins _ (.cells ⟨[.slice base' n.length cap']⟩ 23 (0,0)) hbn
 have s3:=sub_ins _ (.cells ⟨[.slice base m.length cap,.slice base' n.length cap']⟩ 23 (0,0)) hb
 refine (c101 [m,n] (by simp) (by simp;omega) _ _ (pair_mats (ins_same _ _ _) (((hu.up s1).up s2).up s3) (((hv.up s1).up s2).up s3))).val fun H2 s4=>?_
 conv=>whnf
 unfold AddMF
 refine if_intro (fun he=>?_) (fun he=>?_)
 ·conv=>whnf
  have he:errsM [m,n] ≠ 0:=by simpa using he
  unfold addErr bothErr
  rw[if_pos he,resM_bad he]
  exact OutO.bad
 have he:errsM [m,n]=0:=by simpa using he
 obtain⟨rm,rn⟩:=rights_of he
 have hu2:=(((hu.up s1).up s2).up s3).up s4
 have hv2:=(((hv.up s1).up s2).up s3).up s4
 conv=>whnf
 refine (c102 m n rm.pos rn.pos _ _ _ hu2 hv2).val fun H3 s5=>?_
 conv=>whnf
 refine if_intro (fun ha=>?_) (fun ha=>?_)
 ·conv=>whnf
  have ha:alikeF m n=false:=by simpa using ha
  unfold addErr bothErr
  rw[if_neg (by simpa using he),ha,resM_bad (by decide)]
  exact OutO.bad
 have ha:alikeF m n=true:=by simpa using ha
 have hA:addErr m n=0:=by
  unfold addErr bothErr
  rw[if_neg (by simpa using he),ha]
  rfl
 obtain⟨e1,e2⟩:=alike_iff ha
 have hml:=rm.le
 have hwl:=rm.wle
 have hmp:=rm.pos
 obtain⟨bu,ou,ru,cu,rfl,hru,_⟩:=(hu2.up s5).at rm.pos
 rw[← wideM_get rm.pos] at hru
 conv=>whnf
 refine W_draw (pol:=polL) Γok mixes [(0,.pendO),(1,.pendO),(2,.pendO),(3,.pendO),(4,.pendO),(5,.pendO),(6,.pendO),(7,.lock),(8,.pendO),(9,.pendO),(10,.pendO),(11,.pendO)] 28 (by kernel_rfl) rfl ?_
 conv=>whnf
 refine dec_intro (by omega) ?_
 conv=>whnf
 refine⟨_,hru _ _ (Sub.refl _),?_⟩
 conv=>whnf
 refine (c81 (addAt m n) m.length (wideM m) (by omega) (by omega) _ _ _ _ fun i k hi hk=>⟨144,[],[_,_],rfl,fun H' hs'=>?_⟩).mono fun r H4 M4 s6 hr=>?_
 ·have r1:=rm.row _ (List.getElem_mem hi)
  have r2:=rn.row _ (List.getElem_mem (show i < n.length by omega))
  unfold addAt
  rw[entry_get hi (by omega),entry_get (show i < n.length by omega) (by omega)]
  exact c109 m n i k hi (by omega) (by omega) (by omega) H' _ _ _ _ _ _ ((hu2.up s5).up hs') ((hv2.up s5).up hs') (hs' _ _ (s5 _ _ (s4 _ _ (s3 _ _ (s2 _ _ (ins_same _ _ _)))))) (hs' _ _ (s5 _ _ (s4 _ _ (s3 _ _ (ins_same _ _ _)))))
 obtain⟨x,rfl,hx⟩:=MadeE.out (by omega) (by omega) hr hA
 conv=>whnf
 exact⟨x,rfl,hx⟩
def scaleAt (m : Mx) (x:P4 × Int) (i k:Nat):(P4 × Int) × Int:=MulF (entry m i k) x
def ScaleMF (m : Mx) (x:P4 × Int):Mx × Int:=resM (if checkMF m ≠ 0 then checkMF m else checkF x.1 x.2) (scaleAt m x) m.length (wideM m)
theorem c114 (m : Mx) (x:P4 × Int) (i k:Nat) (hi:i < m.length) (hk:k < m[i].length) (H:PH) (u:Value) (bm bx:Nat) (t t':TypeId) (hu:MatH H u m) (hbm:H bm=some (.cells ⟨[u]⟩ t (0,0))) (hbx:H bx=some (.cells ⟨cellsOf x⟩ t' (0,0))) :
 Cl Tryz.prog 140 [place i k,.pointer (some ⟨bm,0,none⟩),.pointer (some ⟨bx,0,none⟩)] H emp fun r _ _=>r=ne (MulF m[i][k] x):=by
 obtain⟨base,cap,rfl⟩:=hu.sl
 refine Cl_of (pol:=polL) Γok Tryz.func140 (by kernel_rfl) rfl ?_
 conv=>whnf
 repeat (intro _;conv=>whnf)
 refine W_draw (pol:=polL) Γok mixes [(0,.pendO),(1,.pendO),(3,.pend),(2,.lock),(4,.lock),(5,.pendO),(6,.pendO),(7,.lock),(8,.pendO)] 13 (by kernel_rfl) rfl ?_
 conv=>whnf
 refine⟨_,Rd.whole hbm,?_⟩
 conv=>whnf
 refine⟨_,Rd.whole hbx,?_⟩
 conv=>whnf
 refine (c84 m i k hi hk _ _ hu).val fun H1 s1=>?_
 conv=>whnf
 refine (c104 m[i][k] x _).val fun H3 s3=>?_
 conv=>whnf
 rfl
theorem c42 (m : Mx) (x:P4 × Int) (hlm:m.length < 1000000) (H:PH) (u:Value) (hu:MatH H u m):Cl Tryz.prog 74 [u,nv x] H emp fun r _ M'=>OutO M' r (ScaleMF m x):=by
 obtain⟨base,cap,rfl⟩:=hu.sl
 refine Cl_of (pol:=fun | 2=>.imm | 3=>.imm | _=>.loc) Γok Tryz.func74 (by kernel_rfl) rfl ?_
 conv=>whnf
 intro bm hbm _
 conv=>whnf
 intro bx hbx _
 conv=>whnf
 have s1:=sub_ins H (.cells ⟨[.slice base m.length cap]⟩ 23 (0,0)) hbm
 have s2:=sub_ins _ (.cells ⟨cellsOf x⟩ 25 (0,0)) hbx
 refine (c29 m _ _ hlm ((hu.up s1).up s2)).val fun H2 s4=>?_
 conv=>whnf
 unfold ScaleMF
 refine if_intro (fun he=>?_) (fun he=>?_)
 ·conv=>whnf
  have he:checkMF m ≠ 0:=by simpa using he
  rw[if_pos he,resM_bad he]
  exact OutO.bad
 have he:checkMF m=0:=by simpa using he
 have rm:=right_of he
 have hu2:=((hu.up s1).up s2).up s4
 conv=>whnf
 refine (c93 x.1 x.2 _).val fun H3 s5=>?_
 conv=>whnf
 refine if_intro (fun ha=>?_) (fun ha=>?_)
 ·conv=>whnf
  have ha:checkF x.1 x.2 ≠ 0:=by simpa using ha
  rw[if_neg (by simpa using he),resM_bad ha]
  exact OutO.bad
 have ha:checkF x.1 x.2=0:=by simpa using ha
 rw[if_neg (by simpa using he)]
 have hml:=rm.le
 have hwl:=rm.wle
 have hmp:=rm.pos
 obtain⟨bu,ou,ru,cu,rfl,hru,_⟩:=(hu2.up s5).at rm.pos
 rw[← wideM_get rm.pos] at hru
 conv=>whnf
 refine W_draw (pol:=polL) Γok mixes [(0,.pendO),(1,.pendO),(2,.pendO),(3,.pendO),(4,.pendO),(5,.pendO),(6,.pendO),(7,.lock),(8,.pendO),(9,.pendO),(10,.pendO),(11,.pendO)] 28 (by kernel_rfl) rfl ?_
 conv=>whnf
 refine dec_intro (by omega) ?_
 conv=>whnf
 refine⟨_,hru _ _ (Sub.refl _),?_⟩
 conv=>whnf
 refine (c81 (scaleAt m x) m.length (wideM m) (by omega) (by omega) _ _ _ _ fun i k hi hk=>⟨140,[],[_,_],rfl,fun H' hs'=>?_⟩).mono fun r H4 M4 s6 hr=>?_
 ·have r1:=rm.row _ (List.getElem_mem hi)
  unfold scaleAt
  rw[entry_get hi (by omega)]
  exact c114 m x i k hi (by omega) H' _ _ _ _ _ ((hu2.up s5).up hs') (hs' _ _ (s5 _ _ (s4 _ _ (s2 _ _ (ins_same _ _ _))))) (hs' _ _ (s5 _ _ (s4 _ _ (ins_same _ _ _))))
 obtain⟨y,rfl,hx⟩:=MadeE.out (by omega) (by omega) hr ha
 conv=>whnf
 exact⟨y,rfl,hx⟩
def MulMF (m n : Mx):Mx × Int:=resM (mulErr m n) (mulAt m n) m.length (wideM n)
theorem c40q (m n : Mx) (hlm:m.length < 1000000) (hln:n.length < 1000000) (H:PH) (u v:Value) (hu:MatH H u m) (hv:MatH H v n):Cl Tryz.prog 91 [u,v] H emp fun r _ M'=>OutO M' r (MulMF m n):=
 (c40 m n hlm hln H u v hu hv).mono fun r H' M' _ hr=>by
  unfold MulMF mulErr bothErr
  rcases hr with⟨h1,rfl⟩ | ⟨h1,h2,rfl⟩ | ⟨h1,h2,h3⟩
  ·rw[if_pos h1,resM_bad h1];exact OutO.bad
  ·rw[if_neg (by simpa using h1),if_neg h2,resM_bad (by decide)];exact OutO.bad
  ·have hw:=(rights_of h1).2.wle
   exact h3.out (by omega) (by omega) (by rw[if_neg (by simpa using h1),if_pos h2])
theorem AddM_eq (m n : Mx):AddMF m n=AddMR m n:=resM_congr rfl fun _ i k _ _=>Add_eq _ _
theorem colL_at {n : Mx} {k t:Nat} (ht:t < n.length):atL (colL n k) t=entry n t k:=by
 unfold atL colL entry
 simp[List.getD_eq_getElem?_getD,ht,atL]
theorem MulM_eq (m n : Mx):MulMF m n=MulMR m n:=by
 refine resM_congr rfl fun h i k hi hk=>?_
 unfold mulErr bothErr at h
 split at h
 ·rename_i h1;exact absurd h h1
 rename_i h1
 have h1:errsM [m,n]=0:=by simpa using h1
 split at h
 ·rename_i h2
  have rm:=(rights_of h1).1
  have r1:=rm.row _ (List.getElem_mem hi)
  have e:(m.getD i []).length=n.length:=by
   rw[show m.getD i []=m[i] by simp[List.getD_eq_getElem?_getD,hi]]
   omega
  unfold mulAt mulAtR
  rw[e]
  exact dot_eq _ fun t ht=>⟨rfl,(colL_at ht).symm⟩
 ·cases h
theorem ScaleM_eq (m : Mx) (x:P4 × Int):ScaleMF m x=ScaleMR m x:=by
 unfold ScaleMF ScaleMR
 rw[← checkMF_checkMR,← checkF_checkR]
 split
 ·rename_i h;rw[resM_bad h]
 rename_i h1
 have h1:checkMF m=0:=by simpa using h1
 split
 ·rename_i h;rw[resM_bad h]
 rename_i h2
 have h2:checkF x.1 x.2=0:=by simpa using h2
 have rm:=right_of h1
 have hx:checkMF [[x]]=0:=by
  rw[checkMF_checkMR]
  unfold checkMR
  simp[badRow,errsR,firstErr,← checkF_checkR,h2]
 have hk:kronErr m [[x]]=0:=by
  unfold kronErr bothErr errsM
  have:=rm.le
  have:=rm.wle
  simp[firstErr,h1,hx,wideM] at this ⊢
  omega
 have e1:m.length*[[x]].length=m.length:=by simp
 have e2:wideM m*wideM [[x]]=wideM m:=by simp[wideM]
 unfold KronMR
 rw[e1,e2]
 refine resM_congr (h2.trans hk.symm) fun _ i k _ _=>?_
 unfold scaleAt kronAtR
 rw[Mul_eq]
 simp[wideM,Nat.mod_one]
 rfl
def OwnL (B : PH):PH→List (Value × Mx)→Prop
 | O,[]=>Sub B O
 | O,(u,x)::l=>∃ M R,Sub M O∧Sub R O∧Dis M R∧OwnQ M u x∧OwnL B R l
theorem OwnL.up {B : PH}:∀ {l:List (Value × Mx)} {O O':PH},OwnL B O l→Sub O O'→OwnL B O' l
 | [],_,_,h,hs=>Sub.trans h hs
 | (_,_)::_,_,_,⟨M,R,h1,h2,h3,h4,h5⟩,hs=>⟨M,R,h1.trans hs,h2.trans hs,h3,h4,h5⟩
theorem OwnL.rem {B : PH}:∀ {l:List (Value × Mx)} {O:PH},OwnL B O l→Sub B O
 | [],_,h=>h
 | (_,_)::_,_,⟨M,R,h1,h2,h3,h4,h5⟩=>h5.rem.trans h2
theorem un_l {A B : PH}:Sub A (un A B):=fun n o h=>by simp[un,h]
theorem un_r {A B : PH} (hd:Dis A B):Sub B (un A B):=fun n o h=>un_right hd h
theorem Dis.sub {A B A' : PH} (h:Dis A B) (hs:Sub A' A):Dis A' B:=fun n=>by
 cases e:A' n with
 | none=>exact .inl rfl
 | some o=>exact .inr ((h n).resolve_left (by rw[hs _ _ e];simp))
theorem OwnL.snoc : ∀ {l:List (Value × Mx)} {O M:PH} {u:Value} {x:Mx},OwnL emp O l→Dis M O→OwnQ M u x→OwnL emp (un M O) (l++[(u,x)])
 | [],O,M,u,x,_,hd,hq=>⟨M,emp,un_l,(fun _ _ h=>by cases h),.emp _,hq,Sub.refl _⟩
 | (u0,x0)::l,O,M,u,x,⟨M0,R,h1,h2,h3,h4,h5⟩,hd,hq=>by
  refine⟨M0,un M R,h1.trans (un_r hd),?_,?_,h4,h5.snoc (Dis.symm (Dis.sub hd.symm h2)) hq⟩
  ·intro n o hn
   unfold un at hn ⊢
   cases e:M n with
   | some o'=>rw[e] at hn;exact hn
   | none=>rw[e] at hn;exact h2 _ _ hn
  ·intro n
   cases e:M0 n with
   | none=>exact .inl rfl
   | some o=>
    refine .inr ?_
    unfold un
    rw[(hd n).resolve_right (by rw[h1 _ _ e];simp)]
    exact (h3 n).resolve_left (by rw[e];simp)
theorem OwnL.ins {b : Nat} {o:Obj}:∀ {l:List (Value × Mx)} {O:PH},OwnL emp O l→O b=none→OwnL (ins emp b o) (ins O b o) l
 | [],O,_,_=>fun n x hn=>by
  by_cases e:n=b
  ·subst e;rw[ins_same] at hn ⊢;exact hn
  ·rw[ins_ne _ _ e] at hn;cases hn
 | (u0,x0)::l,O,⟨M0,R,h1,h2,h3,h4,h5⟩,hb=>by
  have hR:R b=none:=by
   cases e:R b with
   | none=>rfl
   | some o=>rw[h2 _ _ e] at hb;cases hb
  refine⟨M0,PH.ins R b o,h1.trans (sub_ins _ _ hb),?_,?_,h4,h5.ins hR⟩
  ·intro n x hn
   by_cases e:n=b
   ·subst e;rw[ins_same] at hn ⊢;exact hn
   ·rw[ins_ne _ _ e] at hn ⊢;exact h2 _ _ hn
  ·intro n
   by_cases e:n=b
   ·subst e
    refine .inl ?_
    cases e:M0 n with
    | none=>rfl
    | some o=>rw[h1 _ _ e] at hb;cases hb
   ·rw[ins_ne _ _ e];exact h3 n
theorem OwnL.mem {B : PH}:∀ {l:List (Value × Mx)} {O:PH} {u:Value} {x:Mx},OwnL B O l→(u,x)∈l→OwnQ O u x
 | (u0,x0)::l,O,u,x,⟨M,R,h1,h2,h3,h4,h5⟩,hm=>by
  rcases List.mem_cons.1 hm with h | h
  ·cases h;exact h4.up h1
  ·exact (h5.mem h).up h2
theorem OwnL.call {f : FuncId} {args:List Value} {H O:PH} {x:Mx × Int} {l:List (Value × Mx)} (hl:OwnL emp O l) (h:Cl Tryz.prog f args H emp fun r _ M'=>OutO M' r x) :
 Cl Tryz.prog f args H O fun r _ O'=>∃ u,r=.tuple #[u,.int .i64 x.2]∧OwnL emp O' (l++[(u,x.1)]):=
 h.pure.mono fun r H' O' _ ⟨M',hp,u,hr,hq⟩=>⟨u,hr,by
  rw[show O'=un M' O from funext hp.all]
  exact hl.snoc hp.dis hq⟩
theorem OwnQ.len {M : PH} {u:Value} {x:Mx} (h:OwnQ M u x):x.length < 1000000∧∀ r∈x,r.length < 1000000:=by
 rcases h with⟨_,rfl⟩ | ⟨a,b,h1,h2,h3,h4,_⟩
 ·simp
 ·refine⟨by omega,fun r hr=>?_⟩
  obtain⟨i,hi⟩:=List.mem_iff_getElem?.1 hr
  have:=h4 i r hi
  omega
theorem c24q {H M : PH} {u:Value} {x:Mx} (h:OwnQ M u x):Cl Tryz.prog 19 [u] H M fun _ _ _=>True:=by
 rcases h with⟨rfl,_⟩ | ⟨a,b,h1,h2,h3⟩
 ·exact c24nil H M
 ·exact c24 a b h1 h2 x H M u h3
theorem c24L {B H O : PH} {l:List (Value × Mx)} {u:Value} {x:Mx} (hl:OwnL B O ((u,x)::l)):Cl Tryz.prog 19 [u] H O fun _ _ O'=>OwnL B O' l:=by
 obtain⟨M,R,h1,h2,h3,h4,h5⟩:=hl
 have hp:Parts O M (fun n=>match M n with | some _=>none | none=>O n):=by
  refine⟨fun n=>?_,fun n=>?_⟩
  ·unfold un
   cases e:M n with
   | some o=>exact h1 _ _ e
   | none=>simp[e]
  ·cases e:M n with
   | some o=>exact .inr (by simp[e])
   | none=>exact .inl rfl
 refine ((c24q (H:=H) h4).frame hp).mono fun _ H' O' _ ⟨M',hp',_⟩=>h5.up fun n o hn=>hp'.right n o ?_
 simp only[(h3 n).resolve_right (by rw[hn];simp)]
 exact h2 _ _ hn
theorem OwnQ.sl {M : PH} {u:Value} {x:Mx} (h:OwnQ M u x):∃ base n cap,u=.slice base n cap:=by
 rcases h with⟨rfl,_⟩ | ⟨a,b,_,_,_,_,bs,b0,_,_,rfl,_⟩
 ·exact⟨_,_,_,rfl⟩
 ·exact⟨_,_,_,rfl⟩
def daggerAt (m : Mx) (i k:Nat):(P4 × Int) × Int:=ConjF (entry m k i)
def DaggerMF (m : Mx):Mx × Int:=resM (checkMF m) (daggerAt m) (wideM m) m.length
theorem c128 (m : Mx) (i k:Nat) (hk:k < m.length) (hi:i < m[k].length) (H:PH) (u:Value) (bm:Nat) (t:TypeId) (hu:MatH H u m) (hbm:H bm=some (.cells ⟨[u]⟩ t (0,0))) :
 Cl Tryz.prog 171 [place i k,.pointer (some ⟨bm,0,none⟩)] H emp fun r _ _=>r=ne (ConjF m[k][i]):=by
 obtain⟨base,cap,rfl⟩:=hu.sl
 obtain⟨b,off,bb,cc,rfl,hrd,hn⟩:=hu.at hk
 obtain⟨b1,off1,rfl,hx⟩:=hn.at hi
 refine Cl_of (pol:=polL) Γok Tryz.func171 (by kernel_rfl) rfl ?_
 conv=>whnf
 repeat (intro _;conv=>whnf)
 refine W_draw (pol:=polL) Γok mixes [(0,.pendO),(1,.pendO),(2,.pendO),(3,.pendO),(4,.pendO),(5,.pendO),(6,.pendO),(7,.pendO),(8,.pendO),(9,.lock),(10,.pendO),(11,.pendO),(12,.lock),(13,.pendO)] 17 (by kernel_rfl) rfl ?_
 conv=>whnf
 refine⟨_,Rd.whole hbm,?_⟩
 conv=>whnf
 refine dec_intro (by omega) ?_
 conv=>whnf
 refine⟨_,hrd _ _ (Sub.refl _),?_⟩
 conv=>whnf
 refine dec_intro (by omega) ?_
 conv=>whnf
 refine⟨_,hx _ _ (Sub.refl _),?_⟩
 conv=>whnf
 refine (c122 m[k][i] _).val fun H1 s1=>?_
 conv=>whnf
 rfl
theorem c53 (m : Mx) (hlm:m.length < 1000000) (H:PH) (u:Value) (hu:MatH H u m):Cl Tryz.prog 113 [u] H emp fun r _ M'=>OutO M' r (DaggerMF m):=by
 obtain⟨base,cap,rfl⟩:=hu.sl
 refine Cl_of (pol:=fun | 1=>.imm | _=>.loc) Γok Tryz.func113 (by kernel_rfl) rfl ?_
 conv=>whnf
 intro bm hbm _
 conv=>whnf
 have s1:=sub_ins H (.cells ⟨[.slice base m.length cap]⟩ 23 (0,0)) hbm
 refine (c29 m _ _ hlm (hu.up s1)).val fun H2 s4=>?_
 conv=>whnf
 unfold DaggerMF
 refine if_intro (fun he=>?_) (fun he=>?_)
 ·conv=>whnf
  have he:checkMF m ≠ 0:=by simpa using he
  rw[resM_bad he]
  exact OutO.bad
 have he:checkMF m=0:=by simpa using he
 have rm:=right_of he
 have hu2:=(hu.up s1).up s4
 have hml:=rm.le
 have hwl:=rm.wle
 have hmp:=rm.pos
 obtain⟨bu,ou,ru,cu,rfl,hru,_⟩:=hu2.at rm.pos
 rw[← wideM_get rm.pos] at hru
 conv=>whnf
 refine W_draw (pol:=polL) Γok mixes [(0,.pendO),(1,.pendO),(2,.pendO),(3,.pendO),(4,.pendO),(5,.pendO),(6,.pendO),(7,.lock),(8,.pendO),(9,.pendO),(10,.pendO),(11,.pendO)] 20 (by kernel_rfl) rfl ?_
 conv=>whnf
 refine dec_intro (by omega) ?_
 conv=>whnf
 refine⟨_,hru _ _ (Sub.refl _),?_⟩
 conv=>whnf
 refine (c81 (daggerAt m) (wideM m) m.length (by omega) (by omega) _ _ _ _ fun i k hi hk=>⟨171,[],[_],rfl,fun H' hs'=>?_⟩).mono fun r H4 M4 s6 hr=>?_
 ·have r1:=rm.row _ (List.getElem_mem hk)
  unfold daggerAt
  rw[entry_get hk (by omega)]
  exact c128 m i k hk (by omega) H' _ _ _ (hu2.up hs') (hs' _ _ (s4 _ _ (ins_same _ _ _)))
 obtain⟨y,rfl,hx⟩:=MadeE.out (by omega) (by omega) hr he
 conv=>whnf
 exact⟨y,rfl,hx⟩
def daggerAtR (m : Mx) (i k:Nat):(P4 × Int) × Int:=((ConjR (entry m k i)).1,0)
def DaggerMR (m : Mx):Mx × Int:=resM (checkMR m) (daggerAtR m) (wideM m) m.length
theorem c57 (m : Mx) (H:PH) (u:Value) (hu:MatH H u m):Cl Tryz.prog 59 [u] H emp fun r H' _=>OutH H' r (DaggerMR m):=by
 obtain⟨base,cap,rfl⟩:=hu.sl
 refine Cl_of (pol:=(fun | 50=>.imm | _=>.loc)) Γok Tryz.func59 (by kernel_rfl) rfl ?_
 conv=>whnf
 refine (c30 m _ _ hu).val fun H1 s1=>?_
 conv=>whnf
 unfold DaggerMR
 refine if_intro (fun he=>?_) (fun he=>?_)
 ·conv=>whnf
  have he:checkMR m ≠ 0:=by simpa using he
  rw[resM_bad he]
  exact OutH.bad
 have hA:checkMR m=0:=by simpa using he
 have rm:=right_of ((checkMF_checkMR m).trans hA)
 replace hu:=hu.up s1
 obtain⟨b,off,bb,cc,rfl,hrd0,_⟩:=hu.at rm.pos
 rw[← wideM_get rm.pos] at hrd0
 have hml:=rm.le
 have hwl:=rm.wle
 have hmp:=rm.pos
 generalize hF:daggerAtR m=F
 conv=>whnf
 refine dec_intro (by omega) ?_
 conv=>whnf
 refine⟨_,hrd0 _ _ (Sub.refl _),?_⟩
 conv=>whnf
 refine dec_intro (Int.le_refl _) ?_
 conv=>whnf
 refine dec_intro (by omega) ?_
 conv=>whnf
 refine dec_intro (by omega) ?_
 conv=>whnf
 intro b0 hb0 _
 conv=>whnf
 refine W_repart ?_
 refine W_loopX (pol:=(fun | 50=>.imm | _=>.loc)) Γok (Nat × PH × List Value × PH) (fun i=>i.1≤(wideM m)∧Sub H1 i.2.1∧firstErr (errsE F (wideM m) m.length)=firstErr ((errsE F (wideM m) m.length).drop (i.1*m.length))∧GridO i.2.1 i.2.2.2 b0 (wideM m) i.2.2.1 (gridM F i.1 m.length)) (fun i=>(wideM m) - i.1)
  (fun e i=>e=.exit 0∧Sub H1 i.2.1∧firstErr (errsE F (wideM m) m.length)=0∧GridO i.2.1 i.2.2.2 b0 (wideM m) i.2.2.1 (gridM F (wideM m) m.length)) (fun i=>[(6,.v (.int .i64 i.1))]) (fun _=>[]) (fun i=>i.2.1) (fun i=>i.2.2.2) ⟨(0,H1,[],ins emp b0 (.cells ⟨(List.replicate (wideM m) [Value.slice none 0 0]).flatten⟩ 22 (0,0))),⟨by simp,Sub.refl _,by simp,GridO.start b0 (wideM m) emp⟩,rfl,rfl,?_⟩ ?_ ?_
 ·conv=>whnf
  repeat (refine⟨rfl,?_⟩;conv=>whnf)
  exact trivial
 ·rintro ⟨i,H',us,O'⟩ ⟨h1,h2,h3,h4⟩
  dsimp only at h1 h2 h3 h4
  conv=>whnf
  refine if_intro (fun h=>?_) (fun h=>?_)
  ·have hi:i < (wideM m):=by simpa using h
   have hus:us.length=i:=by rw[h4.rows.1];simp[gridM]
   conv=>whnf
   refine W_repart ?_
   refine W_loopX (pol:=(fun | 50=>.imm | _=>.loc)) Γok (Nat × PH × Value × PH) (fun k=>k.1≤m.length∧Sub H' k.2.1∧firstErr (errsE F (wideM m) m.length)=firstErr ((errsE F (wideM m) m.length).drop (i*m.length+k.1))∧GridC k.2.1 k.2.2.2 b0 (wideM m) us (gridM F i m.length) k.2.2.1 (gridRow F i k.1)) (fun k=>m.length - k.1)
    (fun e k=>e=.exit 2∧Sub H' k.2.1∧firstErr (errsE F (wideM m) m.length)=firstErr ((errsE F (wideM m) m.length).drop ((i+1)*m.length))∧GridC k.2.1 k.2.2.2 b0 (wideM m) us (gridM F i m.length) k.2.2.1 (gridRow F i m.length)) (fun k=>[(7,.v (.int .i64 k.1))]) (fun _=>[]) (fun k=>k.2.1) (fun k=>k.2.2.2) ⟨(0,H',.slice none 0 0,O'),⟨by simp,Sub.refl _,h3,h4.next (by omega)⟩,rfl,rfl,?_⟩ ?_ ?_
   ·conv=>whnf
    repeat (refine⟨rfl,?_⟩;conv=>whnf)
    exact trivial
   ·rintro ⟨k,H3,cur,O3⟩ ⟨k1,k2,k3,k4⟩
    dsimp only at k1 k2 k3 k4
    conv=>whnf
    refine if_intro (fun h=>?_) (fun h=>?_)
    ·have hk:k < m.length:=by
      have:(k:Int) < ((m.length:Nat):Int):=by simpa using h
      omega
     obtain⟨b2,off2,bb2,cc2,hbe,hrd,hn⟩:=(hu.up h2).at hk
     cases hbe
     have hwk:m[k].length=wideM m:=rm.row _ (List.getElem_mem hk)
     obtain⟨b3,off3,rfl,hx⟩:=hn.at (i:=i) (by omega)
     have hFik:F i k=((ConjR m[k][i]).1,0):=by
      rw[← hF]
      unfold daggerAtR
      rw[entry_get hk (by omega)]
     have he:(F i k).2=0:=by rw[hFik]
     have hF1:(F i k).1=(ConjR m[k][i]).1:=by rw[hFik]
     conv=>whnf
     refine dec_intro (by omega) ?_
     conv=>whnf
     refine⟨_,hrd _ _ k2,?_⟩
     conv=>whnf
     refine dec_intro (by omega) ?_
     conv=>whnf
     refine⟨_,hx _ _ k2,?_⟩
     conv=>whnf
     refine (c116 m[k][i] _).val fun H4 s4=>?_
     replace k4:=k4.up s4
     conv=>whnf
     intro bx
     conv=>whnf
     rw[← hF1]
     conv=>whnf
     refine W_draw (pol:=(fun | 50=>.imm | _=>.loc)) Γok mixes [(0,.pendH),(1,.pendH),(2,.pendO),(3,.pendO),(4,.pendO),(5,.pendO),(6,.pendO),(7,.lock),(8,.lock),(9,.pendO),(10,.lock)] 54 (by kernel_rfl) rfl ?_
     conv=>whnf
     refine dec_intro (by omega) ?_
     conv=>whnf
     refine⟨_,k4.rd hus.symm,?_⟩
     conv=>whnf
     intro b5 hb5 hO5
     conv=>whnf
     refine append_one' (xs:=(gridRow F i k).map cellsOf) (y:=cellsOf (F i k).1) k4.row rfl rfl (cellsOf_one _) ⟨_,_,_,rfl,rfl,Rd.whole (ins_same _ _ _)⟩ ?_ fun v2 O4 hO4 hkeep=>?_
     ·simp[gridRow]
      omega
     obtain⟨vb,vn,vc,rfl⟩:=OwnS.sl hO4
     conv=>whnf
     refine dec_intro (by omega) ?_
     conv=>whnf
     obtain⟨cs,q1,q2,q3⟩:=k4.step (l':=gridRow F i (k+1)) hus.symm (by rw[gridRow_succ,NumO,List.map_append];exact hO4) hkeep
     refine⟨cs,_,q1,q2,?_⟩
     conv=>whnf
     have s5:=sub_ins H4 (.cells ⟨cellsOf (F i k).1⟩ 25 (0,0)) hb5
     refine⟨(k+1,ins H4 b5 (.cells ⟨cellsOf (F i k).1⟩ 25 (0,0)),.slice vb vn vc,_),⟨hk,k2.trans (s4.trans s5),?_,q3.up s5⟩,by dsimp only;omega,?_⟩
     ·rw[k3,errsE_at hi hk,if_pos he]
     ·conv=>whnf
      refine⟨rfl,rfl,?_⟩
      conv=>whnf
      repeat (refine⟨rfl,?_⟩;conv=>whnf)
      refine⟨by show En.v (.int .i64 (IntKind.i64.wrap (k+1)))=_;rw[wrap_id (by omega) (by omega)];rfl,?_⟩
      conv=>whnf
      repeat (refine⟨rfl,?_⟩;conv=>whnf)
      exact trivial
    ·have hk:m.length=k:=by
      have:¬ (k:Int) < ((m.length:Nat):Int):=by simpa using h
      omega
     conv=>whnf
     refine .inr ⟨(k,H3,cur,O3),⟨rfl,k2,?_,?_⟩,?_⟩
     ·rw[k3,← hk,Nat.succ_mul]
     ·rw[← hk] at k4
      rw[← hk]
      exact k4
     ·conv=>whnf
      refine⟨rfl,rfl,?_⟩
      conv=>whnf
      repeat (refine⟨rfl,?_⟩;conv=>whnf)
      exact trivial
   ·rintro e ⟨k,H3,cur,O3⟩ ⟨rfl,k2,k3,k4⟩
    dsimp only at k2 k3 k4
    refine .inr fun hd=>?_
    obtain⟨H4,O4,rp,g4⟩:=k4.done hd
    refine⟨H4,O4,rp,?_⟩
    conv=>whnf
    refine⟨(i+1,H4,us++[cur],O4),⟨hi,h2.trans (k2.trans rp.sub),k3,?_⟩,by dsimp only;omega,?_⟩
    ·rw[gridM_succ];exact g4
    ·conv=>whnf
     refine⟨rfl,rfl,?_⟩
     conv=>whnf
     repeat (refine⟨rfl,?_⟩;conv=>whnf)
     refine⟨by show En.v (.int .i64 (IntKind.i64.wrap (i+1)))=_;rw[wrap_id (by omega) (by omega)];rfl,?_⟩
     conv=>whnf
     repeat (refine⟨rfl,?_⟩;conv=>whnf)
     exact trivial
  ·have hi:(wideM m)=i:=by
    have:¬ (i:Int) < (((wideM m):Nat):Int):=by simpa using h
    omega
   conv=>whnf
   refine .inr ⟨(i,H',us,O'),⟨rfl,h2,?_,?_⟩,?_⟩
   ·rw[h3,← hi,errsE_end]
   ·rw[← hi] at h4
    rw[← hi]
    exact h4
   ·conv=>whnf
    refine⟨rfl,rfl,?_⟩
    conv=>whnf
    repeat (refine⟨rfl,?_⟩;conv=>whnf)
    exact trivial
 ·rintro e ⟨i,H',us,O'⟩ ⟨rfl,h2,h3,h4⟩
  dsimp only at h2 h3 h4
  refine .inr fun hd=>?_
  obtain⟨H4,O4,rp,g4⟩:=h4.mat hd (by rw[h4.rows.1];simp[gridM])
  refine⟨H4,O4,rp,?_⟩
  conv=>whnf
  rw[resM_ok hA h3]
  exact⟨_,rfl,g4⟩
theorem DaggerM_eq (m : Mx):DaggerMF m=DaggerMR m:=by
 refine resM_congr (checkMF_checkMR m) fun h i k hi hk=>?_
 have he:=entry_right h hk hi
 unfold daggerAt daggerAtR
 rw[← Conj_eq]
 unfold ConjF
 rw[if_pos he]
 have:(leastF (conjP (entry m k i).1) (entry m k i).2).2=0:=by
  have:=congrArg Prod.snd (Conj_eq (entry m k i))
  unfold ConjF ConjR at this
  rw[if_pos he,if_neg (by rw[← checkF_checkR,he];simp)] at this
  exact this
 exact Prod.ext rfl this
def sumG (f : P4 × Int→P4 × Int→(P4 × Int) × Int):P4 × Int→List (P4 × Int)→(P4 × Int) × Int
 | o,[]=>(o,0)
 | o,x::l=>if (f o x).2 ≠ 0 then ((P4.zero,0),(f o x).2) else sumG f (f o x).1 l
theorem sumG_step {f : P4 × Int→P4 × Int→(P4 × Int) × Int} {o:P4 × Int} {l:List (P4 × Int)} {i:Nat} (hi:i < l.length) :
 sumG f o (l.drop i)=if (f o l[i]).2 ≠ 0 then ((P4.zero,0),(f o l[i]).2) else sumG f (f o l[i]).1 (l.drop (i+1)):=by
 rw[List.drop_eq_getElem_cons hi]
 rfl
theorem fitsR_zero {p : P4} {k:Int} (h:(fitsR p k).2 ≠ 0):(fitsR p k).1=(P4.zero,0):=by
 unfold fitsR at *
 split
 ·rfl
 ·rename_i h';rw[if_neg h'] at h;exact absurd rfl h
theorem fitsR_right {p : P4} {k:Int} (h:(fitsR p k).2=0):checkF (fitsR p k).1.1 (fitsR p k).1.2=0:=by
 unfold fitsR at *
 split
 ·rename_i h';rw[if_pos h'] at h;cases h
 ·rename_i h';rw[checkF_checkR];simpa using h'
theorem AddR_zero {x y : P4 × Int} (h:(AddR x y).2 ≠ 0):(AddR x y).1=(P4.zero,0):=by
 unfold AddR at *
 split
 ·rfl
 ·rename_i h';rw[if_neg h'] at h;exact fitsR_zero h
theorem AddR_right {x y : P4 × Int} (h:(AddR x y).2=0):checkF (AddR x y).1.1 (AddR x y).1.2=0:=by
 unfold AddR at *
 split
 ·show checkF P4.zero 0=0
  decide
 ·rename_i h';rw[if_neg h'] at h;exact fitsR_right h
def SumF (l : List (P4 × Int)):(P4 × Int) × Int:=if errsF l ≠ 0 then ((P4.zero,0),errsF l) else sumG AddF (P4.zero,0) l
def SumR (l : List (P4 × Int)):(P4 × Int) × Int:=if errsR l ≠ 0 then ((P4.zero,0),errsR l) else sumG AddR (P4.zero,0) l
theorem Sum_eq (l : List (P4 × Int)):SumF l=SumR l:=by
 unfold SumF SumR
 rw[errs_same,show AddF=AddR from funext fun x=>funext fun y=>Add_eq x y]
theorem c131 (l : List (P4 × Int)) (hl:l.length < 1000000) (H:PH) (v:Value) (hv:NumH H v l):Cl Tryz.prog 152 [v] H emp fun r _ _=>r=ne (SumR l):=by
 obtain⟨base,cap,rfl,_⟩:=id hv
 refine Cl_of (pol:=polL) Γok Tryz.func152 (by kernel_rfl) rfl ?_
 conv=>whnf
 intro b2
 conv=>whnf
 unfold SumR
 refine (c94 l _ _ hv (by omega)).val fun H1 s1=>?_
 conv=>whnf
 refine if_intro (fun he=>?_) (fun he=>?_)
 ·conv=>whnf
  rw[if_pos (show errsR l ≠ 0 by simpa using he)]
  rfl
 rw[if_neg (show ¬ errsR l ≠ 0 by simpa using he)]
 conv=>whnf
 intro b5
 conv=>whnf
 refine W_loop (pol:=polL) Γok (Nat × PH × (P4 × Int) × Int) (fun i=>i.1≤l.length∧Sub H1 i.2.1∧((i.2.2.2=0∧sumG AddR (P4.zero,0) l=sumG AddR i.2.2.1 (l.drop i.1))∨(i.2.2.2 ≠ 0∧sumG AddR (P4.zero,0) l=i.2.2))) (fun i=>l.length - i.1) (fun i=>[(7,.v (.int .i64 i.1)),(6,.v (.int .i64 i.2.2.2))]) (fun i=>[(1,cellsOf i.2.2.1)]) (fun i=>i.2.1) (fun _=>emp) ⟨(0,H1,(P4.zero,0),0),⟨by simp,Sub.refl _,.inl ⟨rfl,by simp⟩⟩,rfl,rfl,?_⟩ ?_
 ·conv=>whnf
  repeat (refine⟨rfl,?_⟩;conv=>whnf)
  exact trivial
 ·rintro ⟨i,H',o,e⟩ ⟨h1,h2,h3⟩
  dsimp only at h1 h2 h3
  conv=>whnf
  refine if_intro (fun h=>?_) (fun h=>?_)
  ·have hi:i < l.length:=by simpa using h
   obtain⟨b,off,rfl,hx⟩:=hv.at hi
   conv=>whnf
   refine if_intro (fun h=>?_) (fun h=>?_)
   ·have he:e=0:=by simpa using h
    rcases h3 with⟨_,h3⟩ | ⟨h3,_⟩
    rotate_left
    ·exact absurd he h3
    rw[sumG_step hi] at h3
    conv=>whnf
    refine W_draw (pol:=polL) Γok mixes [(0,.pendO),(1,.pendO),(2,.pendO),(3,.pendO),(4,.pendO),(5,.lock),(6,.pendO),(7,.pendO),(8,.pendH),(9,.lock),(10,.pendO)] 35 (by kernel_rfl) rfl ?_
    conv=>whnf
    refine dec_intro (by simpa using hi) ?_
    conv=>whnf
    refine⟨_,hx _ _ (s1.trans h2),?_⟩
    conv=>whnf
    refine (c105 o l[i] _).val fun H2 s2=>?_
    conv=>whnf
    refine⟨(i+1,H2,(AddR o l[i]).1,(AddR o l[i]).2),⟨hi,h2.trans s2,?_⟩,by dsimp only;omega,?_⟩
    ·dsimp only
     by_cases ha:(AddR o l[i]).2=0
     ·rw[if_neg (by simpa using ha)] at h3
      exact .inl ⟨ha,h3⟩
     ·rw[if_pos ha] at h3
      exact .inr ⟨ha,by rw[h3,AddR_zero ha]⟩
    ·conv=>whnf
     refine⟨rfl,rfl,?_⟩
     conv=>whnf
     repeat (refine⟨rfl,?_⟩;conv=>whnf)
     refine⟨by show En.v (.int .i64 (IntKind.i64.wrap (i+1)))=_;rw[wrap_id (by omega) (by omega)];rfl,?_⟩
     conv=>whnf
     repeat (refine⟨rfl,?_⟩;conv=>whnf)
     exact trivial
   ·have he:e ≠ 0:=by simpa using h
    rcases h3 with⟨h3,_⟩ | ⟨_,h3⟩
    ·exact absurd h3 he
    conv=>whnf
    rw[h3]
    rfl
  ·have hi:l.length≤i:=by simpa using h
   conv=>whnf
   have h3':sumG AddR (P4.zero,0) l=(o,e):=by
    rcases h3 with⟨h3,h4⟩ | ⟨_,h3⟩
    ·rw[h4,List.drop_of_length_le hi,h3];rfl
    ·exact h3
   rw[h3']
   rfl
theorem NumH.whole {H : PH} {base:Option Addr} {n cap:Nat} {l:List (P4 × Int)} (h:NumH H (.slice base n cap) l):(base=none→l.length=0)∧∀ O a,base=some a→0 < l.length→Rd H O a (l.length*5) (cellsN l):=by
 obtain⟨_,_,hv,h⟩:=h
 cases hv
 rcases h with⟨h,_⟩ | ⟨b,off,c,t,fr,rfl,h2,h3⟩
 ·exact⟨fun _=>h,fun _ _ _ hp=>by omega⟩
 ·refine⟨fun h=>(by cases h),fun O a ha _=>?_⟩
  cases ha
  rw[cellsN_length] at h3
  exact⟨rfl,cellsN_length l,c,t,fr,.inl h2,h3⟩
theorem checks2_of {x y : P4 × Int} (hx:checkF x.1 x.2=0) (hy:checkF y.1 y.2=0):checks2 x y=0:=by
 unfold checks2 errsF
 simp[firstErr,hx,hy]
theorem c132 (l : List (P4 × Int)) (hl:l.length < 1000000) (H:PH) (v:Value) (hv:NumH H v l):Cl Tryz.prog 156 [v] H emp fun r _ _=>r=ne (SumF l):=by
 obtain⟨base,cap,rfl,_⟩:=id hv
 refine Cl_of (pol:=polL) Γok Tryz.func156 (by kernel_rfl) rfl ?_
 conv=>whnf
 intro b2
 conv=>whnf
 refine dec_intro (Int.le_refl _) ?_
 conv=>whnf
 refine dec_intro (by omega) ?_
 conv=>whnf
 refine dec_intro (by omega) ?_
 conv=>whnf
 intro bw hbw _
 conv=>whnf
 unfold copyK
 refine⟨some ⟨bw,0,none⟩,l.length,l.length,base,l.length,cap,cellsN l,rfl,rfl,by rw[Nat.min_self,cellsN_length],cellsN_one l,(NumH.whole hv).1,fun a ha hp=>?_,fun h=>(by cases h),fun a ha=>⟨bw,0,(List.replicate l.length [Value.int .i64 0,.int .i64 0,.int .i64 0,.int .i64 0,.int .i64 0]).flatten,_,(by cases ha;rfl),ins_same _ _ _,by simp,?_⟩⟩
 ·rw[Nat.min_self] at hp ⊢
  exact (NumH.whole hv).2 _ a ha hp
 have ec:(List.replicate l.length [Value.int .i64 0,.int .i64 0,.int .i64 0,.int .i64 0,.int .i64 0]).flatten.take 0++cellsN l++(List.replicate l.length [Value.int .i64 0,.int .i64 0,.int .i64 0,.int .i64 0,.int .i64 0]).flatten.drop (0+min l.length l.length*5)=cellsN l:=by
  rw[Nat.min_self,List.take_zero,List.nil_append,List.drop_of_length_le (by simp),List.append_nil]
 rw[ec]
 have s1:=sub_ins H (.cells ⟨cellsN l⟩ 25 (0,0)) hbw
 have hw:NumH (ins H bw (.cells ⟨cellsN l⟩ 25 (0,0))) (.slice (some ⟨bw,0,none⟩) l.length l.length) l:=one_row (ins_same _ _ _) rfl
 have hc:=c161 l _ _ hw (by omega)
 conv=>whnf
 refine Cl.pub (ins_same _ _ _) (fun _=>?_) hc.ent
 rw[show del (ins (ins emp bw _) bw _) bw=emp by funext n;unfold del ins emp;by_cases e:n=bw<;>simp[e]]
 unfold SumF
 refine hc.val fun H1 s2=>?_
 replace hw:=hw.up s2
 conv=>whnf
 refine if_intro (fun he=>?_) (fun he=>?_)
 ·conv=>whnf
  rw[if_pos (show errsF l ≠ 0 by simpa using he)]
  rfl
 have he:errsF l=0:=by simpa using he
 rw[if_neg (show ¬ errsF l ≠ 0 by simpa using he)]
 have hright:∀ x∈l,checkF x.1 x.2=0:=fun x hx=>firstErr_zero he _ (List.mem_map.2 ⟨x,hx,rfl⟩)
 clear hc hv
 conv=>whnf
 intro b6
 conv=>whnf
 refine W_loop (pol:=polL) Γok (Nat × PH × (P4 × Int)) (fun i=>i.1≤l.length∧Sub H1 i.2.1∧checkF i.2.2.1 i.2.2.2=0∧sumG AddF (P4.zero,0) l=sumG AddF i.2.2 (l.drop i.1)) (fun i=>l.length - i.1) (fun i=>[(26,.v (.int .i64 i.1))]) (fun i=>[(1,cellsOf i.2.2)]) (fun i=>i.2.1) (fun _=>emp) ⟨(0,H1,(P4.zero,0)),⟨by simp,Sub.refl _,show checkF P4.zero 0=0 by decide,by simp⟩,rfl,rfl,?_⟩ ?_
 ·conv=>whnf
  repeat (refine⟨rfl,?_⟩;conv=>whnf)
  exact trivial
 ·rintro ⟨i,H',o⟩ ⟨h1,h2,h3,h4⟩
  dsimp only at h1 h2 h3 h4
  conv=>whnf
  refine if_intro (fun h=>?_) (fun h=>?_)
  ·have hi:i < l.length:=by simpa using h
   obtain⟨b,off,hb,hx⟩:=hw.at hi
   cases hb
   have hxi:=hright _ (List.getElem_mem hi)
   have hck:=checks2_of h3 hxi
   obtain⟨k1,k2⟩:=maxI_bounds hck
   have hA:AddF o l[i]=addG (fun a b=>wr (a+b)) o l[i]:=by unfold AddF;rw[if_pos hck]
   rw[sumG_step hi] at h4
   conv=>whnf
   refine dec_intro (by simpa using hi) ?_
   conv=>whnf
   refine⟨_,hx _ _ h2,?_⟩
   conv=>whnf
   intro b8
   conv=>whnf
   refine W_draw (pol:=polL) Γok mixes [(0,.pendO),(2,.pend),(1,.lock),(3,.lock),(4,.pendO),(5,.pendO),(6,.pendH),(7,.late),(8,.lock),(9,.pendO)] 44 (by kernel_rfl) rfl ?_
   conv=>whnf
   refine (c151 o.1 o.2 _).val fun H2 s3=>?_
   conv=>whnf
   refine (c165 (fun a b=>wr (a+b)) 175 c178 o l[i] k1 k2 _).val fun H3 s4=>?_
   rw[← hA]
   conv=>whnf
   intro b9
   conv=>whnf
   refine if_intro (fun he=>?_) (fun he=>?_)
   ·have he:(AddF o l[i]).2 ≠ 0:=by simpa using he
    rw[if_pos he] at h4
    conv=>whnf
    rw[h4]
    rfl
   have he:(AddF o l[i]).2=0:=by simpa using he
   rw[if_neg (by simpa using he)] at h4
   conv=>whnf
   refine⟨(i+1,H3,(AddF o l[i]).1),⟨hi,h2.trans (s3.trans s4),?_,h4⟩,by dsimp only;omega,?_⟩
   ·have hr:=he
    dsimp only
    rw[Add_eq] at hr ⊢
    exact AddR_right hr
   conv=>whnf
   refine⟨rfl,rfl,?_⟩
   conv=>whnf
   repeat (refine⟨rfl,?_⟩;conv=>whnf)
   refine⟨by show En.v (.int .i64 (IntKind.i64.wrap (i+1)))=_;rw[wrap_id (by omega) (by omega)];rfl,?_⟩
   conv=>whnf
   repeat (refine⟨rfl,?_⟩;conv=>whnf)
   exact trivial
  ·have hi:l.length≤i:=by simpa using h
   rw[List.drop_of_length_le hi] at h4
   conv=>whnf
   rw[h4]
   rfl
def diagL (m : Mx) (n:Nat):List (P4 × Int):=(List.range n).map fun i=>entry m i i
theorem diagL_succ (m : Mx) (n:Nat):diagL m (n+1)=diagL m n++[entry m n n]:=by
 unfold diagL
 rw[List.range_succ,List.map_append]
 rfl
theorem diagL_len (m : Mx) (n:Nat):(diagL m n).length=n:=by simp[diagL]
def TraceF (m : Mx):(P4 × Int) × Int:=if checkMF m ≠ 0 then ((P4.zero,0),checkMF m) else if m.length ≠ wideM m then ((P4.zero,0),7) else SumF (diagL m m.length)
theorem c60 (m : Mx) (hlm:m.length < 1000000) (H:PH) (u:Value) (hu:MatH H u m):Cl Tryz.prog 90 [u] H emp fun r _ _=>r=ne (TraceF m):=by
 obtain⟨base,cap,rfl⟩:=hu.sl
 refine Cl_of (pol:=(fun | 30=>.imm | _=>.loc)) Γok Tryz.func90 (by kernel_rfl) rfl ?_
 conv=>whnf
 intro b2
 conv=>whnf
 unfold TraceF
 refine (c29 m _ _ hlm hu).val fun H1 s1=>?_
 conv=>whnf
 refine if_intro (fun he=>?_) (fun he=>?_)
 ·conv=>whnf
  rw[if_pos (show checkMF m ≠ 0 by simpa using he)]
  rfl
 have he:checkMF m=0:=by simpa using he
 rw[if_neg (show ¬ checkMF m ≠ 0 by simpa using he)]
 have rm:=right_of he
 have hml:=rm.le
 have hmp:=rm.pos
 replace hu:=hu.up s1
 conv=>whnf
 refine (c79 m rm.pos _ _ hu).val fun H2 s2=>?_
 replace hu:=hu.up s2
 conv=>whnf
 refine if_intro (fun hs=>?_) (fun hs=>?_)
 ·conv=>whnf
  rw[if_pos (show m.length ≠ wideM m from fun e=>by rw[← e] at hs;simp at hs)]
  rfl
 have hsq:m.length=wideM m:=by
  have:((m.length:Int) == (wideM m:Int))=true:=by simpa using hs
  have:=eq_of_beq this
  omega
 rw[if_neg (show ¬ m.length ≠ wideM m by simpa using hsq)]
 conv=>whnf
 refine W_repart ?_
 refine W_loopX (pol:=(fun | 30=>.imm | _=>.loc)) Γok (Nat × PH × Value × PH) (fun i=>i.1≤m.length∧Sub H2 i.2.1∧NumO i.2.2.2 i.2.2.1 (diagL m i.1)) (fun i=>m.length - i.1) (fun e i=>e=.exit 0∧Sub H2 i.2.1∧NumO i.2.2.2 i.2.2.1 (diagL m m.length)) (fun i=>[(20,.v (.int .i64 i.1)),(5,.v i.2.2.1)]) (fun _=>[]) (fun i=>i.2.1) (fun i=>i.2.2.2) ⟨(0,H2,.slice none 0 0,emp),⟨by simp,Sub.refl _,?_⟩,rfl,rfl,?_⟩ ?_ ?_
 ·exact⟨by simp[diagL],.inl ⟨rfl,by simp[diagL]⟩⟩
 ·conv=>whnf
  repeat (refine⟨rfl,?_⟩;conv=>whnf)
  exact trivial
 ·rintro ⟨i,H',out,O'⟩ ⟨h1,h2,h3⟩
  dsimp only at h1 h2 h3
  conv=>whnf
  refine if_intro (fun h=>?_) (fun h=>?_)
  ·have hi:i < m.length:=by simpa using h
   have hii:i < m[i].length:=by rw[rm.row _ (List.getElem_mem hi)];omega
   obtain⟨b,off,bb,cc,hbe,hrd,hn⟩:=hu.at hi
   cases hbe
   obtain⟨b1,off1,rfl,hx⟩:=hn.at hii
   have hent:entry m i i=m[i][i]:=entry_get hi hii
   conv=>whnf
   refine dec_intro (by omega) ?_
   conv=>whnf
   refine⟨_,hrd _ _ h2,?_⟩
   conv=>whnf
   refine dec_intro (by omega) ?_
   conv=>whnf
   refine⟨_,hx _ _ h2,?_⟩
   conv=>whnf
   intro b3 hb3 hO3
   conv=>whnf
   refine append_one (xs:=(diagL m i).map cellsOf) (y:=cellsOf m[i][i]) h3 rfl rfl (cellsOf_one _) ⟨_,_,_,rfl,rfl,Rd.whole (ins_same _ _ _)⟩ ?_ fun v O2 hO2 hfr=>?_
   ·simp only[List.length_map,diagL_len]
    omega
   conv=>whnf
   refine⟨(i+1,ins H' b3 (.cells ⟨cellsOf m[i][i]⟩ 25 (0,0)),v,O2),⟨hi,h2.trans (sub_ins _ _ hb3),?_⟩,by dsimp only;omega,?_⟩
   ·dsimp only
    rw[diagL_succ,hent,NumO,List.map_append]
    exact hO2
   ·conv=>whnf
    refine⟨rfl,rfl,?_⟩
    conv=>whnf
    repeat (refine⟨rfl,?_⟩;conv=>whnf)
    refine⟨by show En.v (.int .i64 (IntKind.i64.wrap (i+1)))=_;rw[wrap_id (by omega) (by omega)];rfl,?_⟩
    conv=>whnf
    repeat (refine⟨rfl,?_⟩;conv=>whnf)
    exact trivial
  ·have hi:m.length=i:=by
    have:¬ i < m.length:=by simpa using h
    omega
   conv=>whnf
   rw[← hi] at h3
   refine .inr ⟨(i,H',out,O'),⟨rfl,h2,h3⟩,rfl,rfl,?_⟩
   conv=>whnf
   repeat (refine⟨rfl,?_⟩;conv=>whnf)
   exact trivial
 rintro e ⟨i,H',out,O'⟩ ⟨rfl,h2,h3⟩
 dsimp only at h2 h3
 refine .inr fun hd=>?_
 obtain⟨H3,O3,rp,hn3⟩:=NumO.pub hd h3
 refine⟨H3,O3,rp,?_⟩
 conv=>whnf
 refine (c132 (diagL m m.length) (by rw[diagL_len];omega) H3 _ hn3).val fun H4 s4=>?_
 conv=>whnf
 rfl
theorem c58 (m : Mx) (hlm:m.length < 1000000) (H:PH) (u:Value) (hu:MatH H u m):Cl Tryz.prog 82 [u] H emp fun r _ _=>r=ne (TraceF m):=by
 obtain⟨base,cap,rfl⟩:=hu.sl
 refine Cl_of (pol:=(fun | 35=>.imm | _=>.loc)) Γok Tryz.func82 (by kernel_rfl) rfl ?_
 conv=>whnf
 intro b2
 conv=>whnf
 unfold TraceF
 refine (c30 m _ _ hu).val fun H1 s1=>?_
 rw[← checkMF_checkMR]
 conv=>whnf
 refine if_intro (fun he=>?_) (fun he=>?_)
 ·conv=>whnf
  rw[if_pos (show checkMF m ≠ 0 by simpa using he)]
  rfl
 have he:checkMF m=0:=by simpa using he
 rw[if_neg (show ¬ checkMF m ≠ 0 by simpa using he)]
 have rm:=right_of he
 have hml:=rm.le
 have hmp:=rm.pos
 replace hu:=hu.up s1
 obtain⟨b,off,bb,cc,rfl,hrd0,_⟩:=hu.at rm.pos
 rw[← wideM_get rm.pos] at hrd0
 obtain⟨H2,hH2⟩:∃ X,X=H1:=⟨_,rfl⟩
 subst hH2
 conv=>whnf
 refine dec_intro (by omega) ?_
 conv=>whnf
 refine⟨_,hrd0 _ _ (Sub.refl _),?_⟩
 conv=>whnf
 refine if_intro (fun hs=>?_) (fun hs=>?_)
 ·conv=>whnf
  rw[if_pos (show m.length ≠ wideM m from fun e=>by rw[← e] at hs;simp at hs)]
  rfl
 have hsq:m.length=wideM m:=by
  have:((m.length:Nat):Int)=((wideM m:Nat):Int):=by simpa using hs
  omega
 rw[if_neg (show ¬ m.length ≠ wideM m by simpa using hsq)]
 conv=>whnf
 refine W_repart ?_
 refine W_loopX (pol:=(fun | 35=>.imm | _=>.loc)) Γok (Nat × PH × Value × PH) (fun i=>i.1≤m.length∧Sub H2 i.2.1∧NumO i.2.2.2 i.2.2.1 (diagL m i.1)) (fun i=>m.length - i.1) (fun e i=>e=.exit 0∧Sub H2 i.2.1∧NumO i.2.2.2 i.2.2.1 (diagL m m.length)) (fun i=>[(6,.v (.int .i64 i.1)),(5,.v i.2.2.1)]) (fun _=>[]) (fun i=>i.2.1) (fun i=>i.2.2.2) ⟨(0,H2,.slice none 0 0,emp),⟨by simp,Sub.refl _,?_⟩,rfl,rfl,?_⟩ ?_ ?_
 ·exact⟨by simp[diagL],.inl ⟨rfl,by simp[diagL]⟩⟩
 ·conv=>whnf
  repeat (refine⟨rfl,?_⟩;conv=>whnf)
  exact trivial
 ·rintro ⟨i,H',out,O'⟩ ⟨h1,h2,h3⟩
  dsimp only at h1 h2 h3
  conv=>whnf
  refine if_intro (fun h=>?_) (fun h=>?_)
  ·have hi:i < m.length:=by simpa using h
   have hii:i < m[i].length:=by rw[rm.row _ (List.getElem_mem hi)];omega
   obtain⟨b,off,bb,cc,hbe,hrd,hn⟩:=hu.at hi
   cases hbe
   obtain⟨b1,off1,rfl,hx⟩:=hn.at hii
   have hent:entry m i i=m[i][i]:=entry_get hi hii
   conv=>whnf
   refine dec_intro (by omega) ?_
   conv=>whnf
   refine⟨_,hrd _ _ h2,?_⟩
   conv=>whnf
   refine dec_intro (by omega) ?_
   conv=>whnf
   refine⟨_,hx _ _ h2,?_⟩
   conv=>whnf
   intro b3 hb3 hO3
   conv=>whnf
   refine append_one (xs:=(diagL m i).map cellsOf) (y:=cellsOf m[i][i]) h3 rfl rfl (cellsOf_one _) ⟨_,_,_,rfl,rfl,Rd.whole (ins_same _ _ _)⟩ ?_ fun v O2 hO2 hfr=>?_
   ·simp only[List.length_map,diagL_len]
    omega
   conv=>whnf
   refine⟨(i+1,ins H' b3 (.cells ⟨cellsOf m[i][i]⟩ 25 (0,0)),v,O2),⟨hi,h2.trans (sub_ins _ _ hb3),?_⟩,by dsimp only;omega,?_⟩
   ·dsimp only
    rw[diagL_succ,hent,NumO,List.map_append]
    exact hO2
   ·conv=>whnf
    refine⟨rfl,rfl,?_⟩
    conv=>whnf
    repeat (refine⟨rfl,?_⟩;conv=>whnf)
    refine⟨by show En.v (.int .i64 (IntKind.i64.wrap (i+1)))=_;rw[wrap_id (by omega) (by omega)];rfl,?_⟩
    conv=>whnf
    repeat (refine⟨rfl,?_⟩;conv=>whnf)
    exact trivial
  ·have hi:m.length=i:=by
    have:¬ i < m.length:=by simpa using h
    omega
   conv=>whnf
   rw[← hi] at h3
   refine .inr ⟨(i,H',out,O'),⟨rfl,h2,h3⟩,rfl,rfl,?_⟩
   conv=>whnf
   repeat (refine⟨rfl,?_⟩;conv=>whnf)
   exact trivial
 rintro e ⟨i,H',out,O'⟩ ⟨rfl,h2,h3⟩
 dsimp only at h2 h3
 refine .inr fun hd=>?_
 obtain⟨H3,O3,rp,hn3⟩:=NumO.pub hd h3
 refine⟨H3,O3,rp,?_⟩
 conv=>whnf
 refine (c131 (diagL m m.length) (by rw[diagL_len];omega) H3 _ hn3).val fun H4 s4=>?_
 rw[← Sum_eq]
 conv=>whnf
 rfl
theorem right_in {x : P4 × Int} (h:checkF x.1 x.2=0):0≤x.2∧x.2≤60∧x.1.within 1073741824:=by
 have:=checkF_range h
 exact⟨this.1,this.2.1,(all_iff (by decide) (by decide)).1 this.2.2⟩
theorem in_right {x : P4 × Int} (h0:0≤x.2) (h1:x.2≤60) (h:x.1.within 1073741824):checkF x.1 x.2=0:=by
 unfold checkF
 rw[show (decide (x.2 < 0) || decide (x.2 > 60))=false by simp;omega,(all_iff (by decide) (by decide)).2 h]
 rfl
def sumP (x y : P4 × Int):P4:=pl (rz (max x.2 y.2 - x.2).toNat x.1) (rz (max x.2 y.2 - y.2).toNat y.1)
theorem Add_fits {x y : P4 × Int} (hx:checkF x.1 x.2=0) (hy:checkF y.1 y.2=0):AddR x y=fitsR (sumP x y) (max x.2 y.2)∧(sumP x y).within 2305843009213693952:=by
 obtain⟨x0,xk,wx⟩:=right_in hx
 obtain⟨y0,yk,wy⟩:=right_in hy
 have hw:(sumP x y).within 2305843009213693952:=pl_within (rz_within wx (by omega)) (rz_within wy (by omega)) (by decide)
 refine⟨?_,hw⟩
 rw[← Add_eq]
 unfold AddF
 rw[if_pos (checks2_of hx hy)]
 have mx:maxI x.2 y.2=max x.2 y.2:=by unfold maxI;split<;>omega
 unfold addG raisedF
 rw[mx,wr_id (n:=max x.2 y.2 - x.2) (by omega) (by omega),wr_id (n:=max x.2 y.2 - y.2) (by omega) (by omega)]
 rw[raiseP_rz wx _ (by omega),raiseP_rz wy _ (by omega),opP_pl (rz_within wx (by omega)) (rz_within wy (by omega))]
 exact least_fits (fine_of hw) (by omega)
theorem Mul_fits {x y : P4 × Int} (hx:checkF x.1 x.2=0) (hy:checkF y.1 y.2=0):MulR x y=fitsR (pz x.1 y.1) (x.2+y.2)∧(pz x.1 y.1).fine:=by
 obtain⟨x0,xk,wx⟩:=right_in hx
 obtain⟨y0,yk,wy⟩:=right_in hy
 refine⟨?_,pz_fine wx wy⟩
 unfold MulR
 rw[errs_same,if_neg (show ¬ errsF [x,y] ≠ 0 from fun h=>h (checks2_of hx hy)),wr_id (by omega) (by omega),product_pz wx wy]
def cz (p : P4):P4:=⟨p.a,-p.d,-p.c,-p.b⟩
theorem cz_within {p : P4} {n:Int} (h:p.within n):(cz p).within n:=by
 unfold P4.within at *
 unfold cz
 dsimp only
 omega
theorem conjP_cz {p : P4} (h:p.within 1073741824):conjP p=cz p:=by
 unfold P4.within at h
 unfold conjP cz
 rw[wr_id (by omega) (by omega),wr_id (by omega) (by omega),wr_id (by omega) (by omega)]
 simp
theorem Conj_form {x : P4 × Int} (hx:checkF x.1 x.2=0):ConjR x=(formR (cz x.1) x.2,0)∧checkF (cz x.1) x.2=0:=by
 obtain⟨x0,xk,wx⟩:=right_in hx
 refine⟨?_,in_right (x:=(cz x.1,x.2)) x0 xk (cz_within wx)⟩
 unfold ConjR
 rw[if_neg (by rw[← checkF_checkR,hx];simp),conjP_cz wx]
theorem lowerR_endF : ∀ (k:Nat) (p:P4),p.fine→p.isZero=false→((lowerR k p).2=0∨evenR (lowerR k p).1=false)∧(lowerR k p).1.isZero=false
 | 0,p,_,hz=>⟨.inl rfl,hz⟩
 | k+1,p,h,hz=>by
  unfold lowerR
  cases he:evenR p with
  | true=>
   simp only[if_true]
   obtain⟨_,h2,h3,h4⟩:=half_fine h he
   rw[h2]
   refine lowerR_endF k (hf p) h3 ?_
   rw[← tw_zero,h4]
   exact hz
  | false=>
   simp only[Bool.false_eq_true,if_false]
   exact⟨.inr he,hz⟩
theorem formR_idem {p : P4} {k:Int} (h:p.fine) (hk:0≤k):formR (formR p k).1 (formR p k).2=formR p k:=by
 cases hz:p.isZero with
 | true=>
  have:p=P4.zero:=isZero_eq hz
  subst this
  rfl
 | false=>
  rw[formR_eq hk hz]
  dsimp only
  obtain⟨h1,h2⟩:=lowerR_endF k.toNat p h hz
  rw[formR_eq (Int.natCast_nonneg _) h2,Int.toNat_natCast,lowerR_stop h1]
structure IsL (z : P4 × Int):Prop where
 ok:checkF z.1 z.2=0
 form:formR z.1 z.2=z
theorem IsL.least {z : P4 × Int} (h:IsL z):LeastF z.1 z.2=(z,0):=by rw[LeastF_eq h.ok,h.form]
theorem fits_L {p : P4} {k:Int} (h:p.fine) (hk:0≤k) (he:(fitsR p k).2=0):IsL (fitsR p k).1:=by
 refine⟨fitsR_right he,?_⟩
 unfold fitsR at *
 split
 ·rfl
 ·exact formR_idem h hk
theorem Add_errs {x y : P4 × Int} (h:(AddR x y).2=0):checkF x.1 x.2=0∧checkF y.1 y.2=0:=by
 unfold AddR at h
 split at h
 ·rename_i h';exact absurd h h'
 ·rename_i h'
  rw[errs_same] at h'
  exact checks2_zero (by simpa[checks2] using h')
theorem Mul_errs {x y : P4 × Int} (h:(MulR x y).2=0):checkF x.1 x.2=0∧checkF y.1 y.2=0:=by
 unfold MulR at h
 split at h
 ·rename_i h';exact absurd h h'
 ·rename_i h'
  rw[errs_same] at h'
  exact checks2_zero (by simpa[checks2] using h')
theorem Add_L {x y : P4 × Int} (h:(AddR x y).2=0):IsL (AddR x y).1:=by
 obtain⟨hx,hy⟩:=Add_errs h
 obtain⟨e,hw⟩:=Add_fits hx hy
 have:=right_in hx
 rw[e] at h ⊢
 exact fits_L (fine_of hw) (by omega) h
theorem Mul_L {x y : P4 × Int} (h:(MulR x y).2=0):IsL (MulR x y).1:=by
 obtain⟨hx,hy⟩:=Mul_errs h
 obtain⟨e,hw⟩:=Mul_fits hx hy
 have:=right_in hx
 have:=right_in hy
 rw[e] at h ⊢
 exact fits_L hw (by omega) h
theorem form_L {p : P4} {k:Int} (h:checkF p k=0):IsL (formR p k):=⟨(formR_right h).1,(formR_right h).2⟩
theorem Conj_L {x : P4 × Int} (h:checkF x.1 x.2=0):IsL (ConjR x).1:=by
 obtain⟨e,hc⟩:=Conj_form h
 rw[e]
 exact form_L hc
theorem zero_L : IsL (P4.zero,0):=⟨by decide,rfl⟩
theorem dotStep_L {o z : P4 × Int} {f:Bool} {w:P4 × Int} (h:(dotStepR o z f w).2=0):IsL (dotStepR o z f w).1:=by
 unfold dotStepR at *
 dsimp only at *
 by_cases hm:(MulR z w).2=0
 ·rw[if_pos hm] at *
  cases f with
  | true=>
   simp only[if_true] at *
   rw[if_pos hm]
   exact Mul_L hm
  | false=>
   simp only[Bool.false_eq_true,if_false] at *
   by_cases ha:(AddR o (MulR z w).1).2=0
   ·rw[if_pos ha]
    exact Add_L ha
   ·rw[if_neg ha] at h
    exact absurd h ha
 ·rw[if_neg hm] at *
  rw[if_neg hm] at h
  exact absurd h hm
theorem grid_right (F : Nat→Nat→(P4 × Int) × Int) {h w:Nat} (h1:0 < h) (h2:h≤64) (w1:0 < w) (w2:w≤64):Right (gridM F h w)∧wideM (gridM F h w)=w:=by
 obtain⟨s1,s2⟩:=gridM_shape F h w
 have hw:wideM (gridM F h w)=w:=by
  rw[wideM_get (by omega)]
  exact s2 0 _ (List.getElem?_eq_getElem _)
 refine⟨⟨by omega,by omega,fun r hr=>?_,by omega,by omega⟩,hw⟩
 obtain⟨i,hi⟩:=List.mem_iff_getElem?.1 hr
 rw[hw]
 exact s2 i r hi
theorem check_grid {m : Mx} (rm:Right m) (h:∀ i k,i < m.length→k < wideM m→checkF (entry m i k).1 (entry m i k).2=0):checkMF m=0:=by
 rw[checkMF_checkMR]
 unfold checkMR
 rw[show (decide ((m.length:Int) < 1) || decide ((m.length:Int) > 64))=false by have:=rm.pos;have:=rm.le;simp;omega]
 have hb:m.any (badRow m)=false:=by
  rw[List.any_eq_false]
  intro r hr
  have h1:=rm.row r hr
  have h2:=rm.wpos
  have h3:=rm.wle
  unfold badRow
  have:(m.headD []).length=wideM m:=rfl
  rw[this]
  simp
  omega
 rw[hb]
 simp only[Bool.false_eq_true,if_false]
 refine firstErr_all fun e he=>?_
 obtain⟨r,hr,rfl⟩:=List.mem_map.1 he
 refine firstErr_all fun e he=>?_
 obtain⟨x,hx,rfl⟩:=List.mem_map.1 he
 obtain⟨i,hi,rfl⟩:=List.mem_iff_getElem.1 hr
 obtain⟨k,hk,rfl⟩:=List.mem_iff_getElem.1 hx
 have:=h i k hi (by rw[← rm.row _ hr];exact hk)
 rw[entry_get hi hk] at this
 rw[← checkF_checkR]
 exact this
theorem dagger_check {m : Mx} (h:checkMF m=0):checkMF (gridM (daggerAtR m) (wideM m) m.length)=0:=by
 have rm:=right_of h
 obtain⟨rd,hw⟩:=grid_right (daggerAtR m) rm.wpos rm.wle rm.pos rm.le
 refine check_grid rd fun i k hi hk=>?_
 rw[hw] at hk
 rw[(gridM_shape _ _ _).1] at hi
 rw[gridM_entry _ hi hk]
 exact (Conj_L (entry_right h hk hi)).ok
end Go.Proofs.YtodmckckapmmoaaGreatDoor
