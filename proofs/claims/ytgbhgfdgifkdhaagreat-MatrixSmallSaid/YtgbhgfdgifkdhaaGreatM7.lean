/- A logic for code of the model, proved sound, and what functions do that the laws on matrices come to; nothing is asked. Part 7. -/
import Derived.Test.YtgbhgfdgifkdhaaGreatM6

set_option linter.unusedVariables false
set_option linter.unusedSimpArgs false
set_option linter.unnecessarySimpa false

namespace Go.Proofs.YtgbhgfdgifkdhaaGreat
open Go.Proofs.YtgbhgfdgifkdhaaGreat.X Go.Proofs.YtgbhgfdgifkdhaaGreat.X.PH
set_option maxRecDepth 100000
def polJ : Tmp→Pol:=fun | 44=>.imm | 56=>.imm | 85=>.imm | 88=>.imm | 91=>.imm | 94=>.imm | 95=>.imm | 146=>.imm | 170=>.imm | 199=>.imm | 208=>.imm | 209=>.imm | 210=>.imm | 212=>.imm | 213=>.imm | 214=>.imm | 268=>.imm | 280=>.imm | 293=>.imm | 294=>.imm | 302=>.imm | 303=>.imm | 308=>.imm | 309=>.imm | 310=>.imm | 322=>.imm | 323=>.imm | 328=>.imm | 329=>.imm | 331=>.imm | _=>.loc
def okM (m : Mx):Prop:=0 < m.length∧m.length < 1000000∧∀ r∈m,r.length < 1000000
structure MsV (H : PH) (vs:List Value) (ms:List Mx):Prop where
  len:vs.length=ms.length
  mat:∀ (i:Nat) (m:Mx) (u:Value),ms[i]?=some m→vs[i]?=some u→MatH H u m
  ok:∀ m∈ms,okM m
theorem MsV.up {H H' : PH} {vs:List Value} {ms:List Mx} (h:MsV H vs ms) (hs:Sub H H'):MsV H' vs ms:=⟨h.len,fun i m u h1 h2=>MatH.up (h.mat i m u h1 h2) hs,h.ok⟩
theorem MsV.nil (H : PH):MsV H [] []:=⟨rfl,fun i m u h=>(by cases h),fun m h=>(by cases h)⟩
theorem MsV.snoc {H : PH} {vs:List Value} {ms:List Mx} {u:Value} {m:Mx} (h:MsV H vs ms) (hu:MatH H u m) (hm:okM m):MsV H (vs++[u]) (ms++[m]):=by
  refine⟨by simp[h.len],fun i m' u' h1 h2=>?_,fun m' hm'=>?_⟩
  · by_cases e:i < ms.length
    · rw[List.getElem?_append_left e] at h1
      rw[List.getElem?_append_left (by rw[h.len];exact e)] at h2
      exact h.mat i m' u' h1 h2
    · by_cases e2:i=ms.length
      · subst e2
        rw[List.getElem?_concat_length] at h1
        rw[← h.len,List.getElem?_concat_length] at h2
        cases h1
        cases h2
        exact hu
      · rw[List.getElem?_eq_none (by simp;omega)] at h1
        cases h1
  · rcases List.mem_append.1 hm' with h' | h'
    · exact h.ok m' h'
    · simp only[List.mem_cons,List.not_mem_nil,or_false] at h'
      subst h'
      exact hm
def MsT (H O : PH) (v:Value) (n:Nat):Prop:=∃ vs ms,OwnS O 1 23 v (vs.map fun u=>[u])∧MsV H vs ms∧ms.length≤n
theorem MsT.up {H H' O : PH} {v:Value} {n:Nat} (h:MsT H O v n) (hs:Sub H H'):MsT H' O v n:=by
  obtain⟨vs,ms,h1,h2,h3⟩:=h
  exact⟨vs,ms,h1,h2.up hs,h3⟩
theorem flat_ones' : ∀ us:List Value,(us.map fun u=>[u]).flatten=us
  | []=>rfl
  | u::us=>by
    simp only[List.map_cons,List.flatten_cons,flat_ones' us]
    rfl
theorem un_left (H O : PH):Sub H (un H O):=fun n o h=>by simp[un,h]
theorem MsT.pub {H O : PH} {v:Value} {n:Nat} (h:MsT H O v n) (hd:Dis H O):∃ base cap ms,v=.slice base ms.length cap∧ms.length≤n∧MatsH (un H O) v ms∧∀ m∈ms,okM m:=by
  obtain⟨vs,ms,ho,h,hn⟩:=h
  rcases ho.2 with⟨e,e2⟩ | ⟨b,cap,sp,e,hO,hcap,hsp⟩
  · have e3:vs=[]:=by simpa using e2
    subst e3
    have e4:ms=[]:=List.eq_nil_of_length_eq_zero h.len.symm
    subst e4
    exact⟨none,0,[],e,hn,⟨[],rfl,⟨none,0,e,.inl ⟨rfl,rfl⟩⟩,fun i m u h1=>(by cases h1)⟩,h.ok⟩
  · rw[List.length_map,h.len] at e
    refine⟨_,cap,ms,e,hn,⟨vs,h.len,⟨_,_,e,.inr ⟨b,0,_,_,_,rfl,un_right hd hO,?_⟩⟩,fun i m u h1 h2=>MatH.up (h.mat i m u h1 h2) (un_left H O)⟩,h.ok⟩
    rw[List.drop_zero,flat_ones']
    simp
theorem MatsH.rdI {H : PH} {base:Option Addr} {n cap:Nat} {ms:List Mx} (h:MatsH H (.slice base n cap) ms) {i:Nat} (hi:i < ms.length) :
    ∃ b off u,base=some ⟨b,off,none⟩∧(∀ H' O,Sub H H'→Rd H' O ⟨b,off+i*1,none⟩ 1 [u])∧MatH H u ms[i]:=by
  obtain⟨b,off,u,e,h1,h2⟩:=h.rd hi
  exact⟨b,off,u,e,fun H' O hs=>Rd_up (h1 emp) hs,h2⟩
theorem pre_ints {H : PH} {b:Nat} {l:List Int} {n cap:Nat} {fr:Nat × Nat} (hb:H b=some (.cells ⟨l.map fun x=>.int .i64 x⟩ 3 fr)) (hn:n≤l.length):IntsH H (.slice (some ⟨b,0,none⟩) n cap) (l.take n):=by
  refine⟨_,_,by rw[List.length_take,Nat.min_eq_left hn],.inr ⟨b,0,_,_,_,rfl,hb,?_⟩⟩
  rw[List.drop_zero,List.length_map,List.length_take,Nat.min_eq_left hn,List.map_take]
theorem ints_b {H : PH} {b:Nat} {l:List Int} {n:Nat} {fr:Nat × Nat} (hb:H b=some (.cells ⟨l.map fun x=>.int .i64 x⟩ 3 fr)) (hn:n=l.length:=by rfl):IntsH H (.slice (some ⟨b,0,none⟩) n n) l:=by
  subst hn
  have:=pre_ints (n:=l.length) (cap:=l.length) hb (Nat.le_refl _)
  rwa [List.take_length] at this
theorem ints_new (H : PH) (b:Nat) (l:List Int):IntsH (PH.ins H b (.cells ⟨l.map fun x=>.int .i64 x⟩ 3 (0,0))) (.slice (some ⟨b,0,none⟩) l.length l.length) l:=ints_b (ins_same _ _ _)
theorem IntsH.sl1 {H : PH} {v:Value} {l:List Int} (h:IntsH H v l):∃ base cap,v=.slice base l.length cap:=by
  obtain⟨b,c,e,_⟩:=h
  exact⟨b,c,e⟩
theorem ints_nil (H : PH):IntsH H (.slice none 0 0) []:=⟨_,_,rfl,.inl ⟨rfl,rfl⟩⟩
theorem ofR_ok (k : Int) (h:0 < (OfR k).1.length):okM (OfR k).1:=by
  unfold OfR at h ⊢
  by_cases e:1≤k∧k≤12
  · rw[if_pos e] at h ⊢
    have all:∀ k,k < 13→1≤k→(decide ((opM k).length < 1000000) && (opM k).all fun r=>decide (r.length < 1000000))=true:=by decide +kernel
    have:=all k.toNat (by omega) (by omega)
    rw[Bool.and_eq_true,decide_eq_true_eq,List.all_eq_true] at this
    exact⟨h,this.1,fun r hr=>of_decide_eq_true (this.2 r hr)⟩
  · rw[if_neg e] at h
    cases h
theorem ofR_len (k : Int):(OfR k).1.length < 1000000:=by
  by_cases h:0 < (OfR k).1.length
  · exact (ofR_ok k h).2.1
  · omega
theorem third : ∀ k:Nat,k < 16→(if IntKind.i64.wrap ((k:Int).tdiv 3) > 3 then 3 else IntKind.i64.wrap ((k:Int).tdiv 3))=((min (k / 3) 3:Nat):Int):=by decide +kernel
theorem MsT.sl {H O : PH} {v:Value} {n:Nat} (h:MsT H O v n):∃ m b c,v=.slice b m c:=by
  obtain⟨vs,ms,ho,_,_⟩:=h
  rcases ho.2 with⟨e,_⟩ | ⟨b,cap,sp,e,_⟩
  · exact⟨_,_,_,e⟩
  · exact⟨_,_,_,e⟩
theorem MsT.frm {H H' O O' M' : PH} {v:Value} {n:Nat} (h:MsT H O v n) (hs:Sub H H') (hp:Parts O' M' O):MsT H' O' v n:=by
  obtain⟨vs,ms,h1,h2,h3⟩:=h
  exact⟨vs,ms,OwnS.keep h1 fun n cs hn=>hp.right _ _ hn,h2.up hs,h3⟩
theorem at_vals {L : List Value} {i:Nat} {K:List Value→Prop} (hi:i < L.length) (h:∀ x,x∈L→K [x]):dropK L (0+((i:Nat):Int).toNat*1) fun cs=>takeK cs 1 K:=by
  have e:(L.drop (0+i*1)).take 1=[L[i]]:=by
    rw[Nat.zero_add,Nat.mul_one,List.drop_eq_getElem_cons hi]
    rfl
  refine dropK_iff.2 ⟨?_,takeK_iff.2 ⟨?_,?_⟩⟩
  · rw[Int.toNat_natCast]
    omega
  · rw[List.length_drop,Int.toNat_natCast]
    omega
  · rw[Int.toNat_natCast,e]
    exact h _ (List.getElem_mem hi)
structure MK (H0 : PH) (a b:Nat) (L:Nat→Bool) (V:Nat→Value) (H O:PH):Prop where
  hh:H=H0
  v0:L 0=true→V 0=.int .i64 a
  v2:L 2=true→V 2=.int .i64 b
  v1:L 1=true→∃ c,V 1=.slice (some ⟨c,0,none⟩) a a∧O c=some (.cells ⟨List.replicate a (.slice none 0 0)⟩ 31 (0,0))
  v3:L 3=true→∃ c,V 3=.slice (some ⟨c,0,none⟩) b b∧O c=some (.cells ⟨List.replicate b (.slice none 0 0)⟩ 31 (0,0))
  ap:L 1=true→L 3=true→∀ c d,V 1=.slice (some ⟨c,0,none⟩) a a→V 3=.slice (some ⟨d,0,none⟩) b b→c ≠ d
  v4:L 4=true→L 1=true∧V 4=V 1
  v5:L 5=true→L 3=true∧V 5=V 3
theorem MK.step {H0 : PH} {a b:Nat} {L:Nat→Bool} {V:Nat→Value} {H O:PH} (h:MK H0 a b L V H O) {i:Nat} {v:Value} (hL:L i=false) (h1:i ≠ 1) (h3:i ≠ 3) (w0:i=0→v=.int .i64 a) (w2:i=2→v=.int .i64 b) (w4:i=4→L 1=true∧v=V 1) (w5:i=5→L 3=true∧v=V 3):MK H0 a b (setL L i) (setV V i v) H O:=by
  have S:=fun (k:Nat) (hk:i ≠ k)=>setL_nq (L:=L) hk
  have T:=fun (k:Nat) (hk:i ≠ k)=>setV_nq (V:=V) (v:=v) hk
  refine⟨h.hh,fun e=>?_,fun e=>?_,fun e=>?_,fun e=>?_,fun e e2=>?_,fun e=>?_,fun e=>?_⟩
  · by_cases k:i=0
    · subst k
      rw[setV_aq]
      exact w0 rfl
    · rw[T 0 k]
      exact h.v0 (by rwa [S 0 k] at e)
  · by_cases k:i=2
    · subst k
      rw[setV_aq]
      exact w2 rfl
    · rw[T 2 k]
      exact h.v2 (by rwa [S 2 k] at e)
  · rw[T 1 h1]
    exact h.v1 (by rwa [S 1 h1] at e)
  · rw[T 3 h3]
    exact h.v3 (by rwa [S 3 h3] at e)
  · rw[T 1 h1,T 3 h3]
    exact h.ap (by rwa [S 1 h1] at e) (by rwa [S 3 h3] at e2)
  · rw[S 1 h1,T 1 h1]
    by_cases k:i=4
    · subst k
      rw[setV_aq]
      exact w4 rfl
    · rw[T 4 k]
      exact h.v4 (by rwa [S 4 k] at e)
  · rw[S 3 h3,T 3 h3]
    by_cases k:i=5
    · subst k
      rw[setV_aq]
      exact w5 rfl
    · rw[T 5 k]
      exact h.v5 (by rwa [S 5 k] at e)
theorem MK.new1 {H0 : PH} {a b:Nat} {L:Nat→Bool} {V:Nat→Value} {H O:PH} (h:MK H0 a b L V H O) (hL:L 1=false) {c:Nat} (hc:O c=none):MK H0 a b (setL L 1) (setV V 1 (.slice (some ⟨c,0,none⟩) a a)) H (ins O c (.cells ⟨List.replicate a (.slice none 0 0)⟩ 31 (0,0))):=by
  refine⟨h.hh,h.v0,h.v2,fun _=>⟨c,rfl,ins_same _ _ _⟩,fun e=>?_,fun _ e c' d e1 e3=>?_,fun e=>?_,fun e=>?_⟩
  · obtain⟨d,e1,e2⟩:=h.v3 e
    exact⟨d,e1,(ins_ne _ _ fun e=>by rw[e,hc] at e2;cases e2).trans e2⟩
  · obtain⟨d',e4,e5⟩:=h.v3 e
    have e1:Value.slice (some ⟨c,0,none⟩) a a=.slice (some ⟨c',0,none⟩) a a:=e1
    have e3:V 3=.slice (some ⟨d,0,none⟩) b b:=e3
    rw[e4] at e3
    cases e1
    cases e3
    intro e6
    rw[← e6,hc] at e5
    cases e5
  · have:=(h.v4 e).1
    rw[hL] at this
    cases this
  · exact h.v5 e
theorem MK.new3 {H0 : PH} {a b:Nat} {L:Nat→Bool} {V:Nat→Value} {H O:PH} (h:MK H0 a b L V H O) (hL:L 3=false) {c:Nat} (hc:O c=none):MK H0 a b (setL L 3) (setV V 3 (.slice (some ⟨c,0,none⟩) b b)) H (ins O c (.cells ⟨List.replicate b (.slice none 0 0)⟩ 31 (0,0))):=by
  refine⟨h.hh,h.v0,h.v2,fun e=>?_,fun _=>⟨c,rfl,ins_same _ _ _⟩,fun e _ d c' e1 e3=>?_,fun e=>?_,fun e=>?_⟩
  · obtain⟨d,e1,e2⟩:=h.v1 e
    exact⟨d,e1,(ins_ne _ _ fun e=>by rw[e,hc] at e2;cases e2).trans e2⟩
  · obtain⟨d',e4,e5⟩:=h.v1 e
    have e1:V 1=.slice (some ⟨d,0,none⟩) a a:=e1
    have e3:Value.slice (some ⟨c,0,none⟩) b b=.slice (some ⟨c',0,none⟩) b b:=e3
    rw[e4] at e1
    cases e1
    cases e3
    intro e6
    rw[e6,hc] at e5
    cases e5
  · exact h.v4 e
  · have:=(h.v5 e).1
    rw[hL] at this
    cases this
theorem rep1 (n : Nat):(List.replicate (n:Int).toNat [Value.slice none 0 0]).flatten=List.replicate n (.slice none 0 0):=by simp
theorem Repart.but {H O : PH} {b:Nat} {o:Obj} (hd:Dis H O) (hb:O b=some o):Repart H O (un H (del O b)) (ins emp b o):=by
  have hHb:H b=none:=(hd b).resolve_right (by rw[hb];simp)
  refine⟨un_left H _,fun n x hn=>?_,fun n x hn=>?_,fun n=>?_⟩
  · by_cases e:n=b
    · subst e
      rw[ins_same] at hn
      rw[hb,← hn]
    · rw[ins_ne _ _ e] at hn
      cases hn
  · unfold un at hn
    cases e:H n with
    | some y=>rw[e] at hn;exact .inl hn
    | none=>
      rw[e] at hn
      right
      by_cases e2:n=b
      · subst e2
        dsimp only at hn
        unfold del at hn
        simp at hn
      · rwa [del_ne _ e2] at hn
  · by_cases e:n=b
    · subst e
      left
      unfold un
      rw[hHb]
      unfold del
      simp
    · exact .inr (ins_ne _ _ e)
theorem Cl.pre {P : Program} {f:FuncId} {args:List Value} {H M H' M':PH} {Q:Value→PH→PH→Prop} (r:Repart H M H' M') (h:Cl P f args H' M' Q):Cl P f args H M Q:=by
  unfold Cl at *
  have hm':∀ n,M n=none→M' n=none:=fun n hm=>by
    cases e:M' n with
    | none=>rfl
    | some o=>rw[r.own n o e] at hm;cases hm
  refine⟨h.1,fun w hH hM hd=>(h.2 w (fun n o hn=>(r.from_ n o hn).elim (hH n o) (hM n o)) (In.sub hM r.own) r.dis).mono ?_⟩
  rintro e w' ⟨v,H'',M'',he,p,hq⟩
  refine⟨v,H'',M'',he,⟨r.sub.trans p.sub,p.inH,p.inM,p.dis,fun n hn hm=>?_,p.frm.mono fun n hn hm=>hm' n hm⟩,hq⟩
  obtain⟨h1,h2⟩:=p.old n hn (hm' n hm)
  refine⟨h1.trans ?_,h2⟩
  cases e:H' n with
  | some o=>
    rcases r.from_ n o e with h | h
    · exact h.symm
    · rw[hm] at h;cases h
  | none=>
    cases e2:H n with
    | none=>rfl
    | some o=>rw[r.sub n o e2] at e;cases e
theorem Cl.pubAll {P : Program} {f:FuncId} {args:List Value} {H M:PH} {Q:Value→PH→PH→Prop} (he:Ent P f) (h:Dis H M→Cl P f args (un H M) emp Q):Cl P f args H M Q:=by
  by_cases hd:Dis H M
  · exact Cl.pre (.all hd) (h hd)
  · unfold Cl
    exact⟨he,fun w _ _ hd'=>absurd hd' hd⟩
theorem cellsN_at {l : List (P4 × Int)} {i:Nat} (hi:i < l.length):((cellsN l).drop (0+i*5)).take 5=cellsOf l[i]:=by
  rw[Nat.zero_add]
  exact seg cellsOf 5 (fun _=>rfl) l i hi
theorem OwnS.other {O : PH} {sz:Nat} {t t':TypeId} {v:Value} {xs:List (List Value)} {b:Nat} {c:List Value} {o:Obj} (h:OwnS O sz t v xs) (hb:O b=some (.cells ⟨c⟩ t' (0,0))) (ht:t' ≠ t):OwnS (ins O b o) sz t v xs:=by
  obtain⟨h1,h2⟩:=h
  refine⟨h1,?_⟩
  rcases h2 with h2 | ⟨b',cap,sp,e,ho,q⟩
  · exact .inl h2
  · refine .inr ⟨b',cap,sp,e,(ins_ne _ _ fun e=>?_).trans ho,q⟩
    rw[e,hb] at ho
    cases ho
    exact ht rfl
theorem RowsS.setN {O : PH} {us:List Value} {m:Mx} (h:RowsS O us m) {i k:Nat} (hi:i < m.length) (hk:k < m[i].length) (x:P4 × Int) :
    ∃ b c cs,us[i]?=some (.slice (some ⟨b,0,none⟩) m[i].length c)∧O b=some (.cells ⟨cs⟩ 33 (0,0))∧0+k*5+5≤cs.length ∧
      RowsS (ins O b (.cells ⟨cs.take (0+k*5)++cellsOf x++cs.drop (0+k*5+5)⟩ 33 (0,0))) us (m.set i (m[i].set k x)):=by
  have hu:i < us.length:=by rw[h.len];exact hi
  have hr:=h.row i us[i] m[i] (List.getElem?_eq_getElem hu) (List.getElem?_eq_getElem hi)
  rcases hr.2 with⟨_,e⟩ | ⟨b,cap,spare,e,hO,hcap,hsp⟩
  · have:m[i]=[]:=by simpa using e
    rw[this] at hk
    simp at hk
  have hl:=cellsN_length m[i]
  have hcs:((m[i].map cellsOf).flatten++spare)=cellsN m[i]++spare:=rfl
  have e1:(cellsN m[i]++spare).take (0+k*5)++cellsOf x++(cellsN m[i]++spare).drop (0+k*5+5)=cellsN (m[i].set k x)++spare:=by
    rw[← cellsN_set m[i] k x hk,List.take_append_of_le_length (by omega),List.drop_append_of_le_length (by omega)]
    simp
  refine⟨b,cap,_,?_,hO,by rw[hcs,List.length_append,hl];omega,?_,fun j u r hu' hr'=>?_,h.apart⟩
  · rw[List.getElem?_eq_getElem hu,e]
    simp
  · rw[List.length_set]
    exact h.len
  · rw[hcs,e1]
    by_cases ej:j=i
    · subst ej
      rw[List.getElem?_set_self hi] at hr'
      cases hr'
      rw[List.getElem?_eq_getElem hu] at hu'
      cases hu'
      refine⟨fun y hy=>?_,.inr ⟨b,cap,spare,by rw[e];simp,ins_same _ _ _,by simpa using hcap,by simpa using hsp⟩⟩
      obtain⟨z,_,rfl⟩:=List.mem_map.1 hy
      rfl
    · rw[List.getElem?_set_ne (Ne.symm ej)] at hr'
      have hrj:=h.row j u r hu' hr'
      refine⟨hrj.1,hrj.2.imp id ?_⟩
      rintro ⟨b',cap',sp',e',ho',q'⟩
      refine⟨b',cap',sp',e',(ins_ne _ _ fun eb=>ej ?_).trans ho',q'⟩
      subst eb
      refine h.apart j i b' _ _ _ _ (by rw[hu',e']) (by rw[List.getElem?_eq_getElem hu,e])
theorem at_nums {L : Vec} {i:Nat} {K:List Value→Prop} (hi:i < L.length) (h:∀ x,K (cellsOf x)):dropK (cellsN L) (0+((i:Nat):Int).toNat*5) fun cs=>takeK cs 5 K:=by
  refine dropK_iff.2 ⟨?_,takeK_iff.2 ⟨?_,?_⟩⟩
  · rw[cellsN_length,Int.toNat_natCast]
    omega
  · rw[List.length_drop,cellsN_length,Int.toNat_natCast]
    omega
  · rw[Int.toNat_natCast,cellsN_at hi]
    exact h _
def m12 : Mx:=intsF [[1,2],[0,1]]
def m11 : Mx:=intsF [[1,1],[-1,1]]
theorem ok11 : okM m11:=⟨by decide,by decide,by decide⟩
theorem half4 : ∀ i:Nat,i < 4→IntKind.i64.wrap ((i:Int).tdiv 2)=((i / 2:Nat):Int)∧(i:Int).tmod 2=((i % 2:Nat):Int):=by decide +kernel
theorem m12_row : ∀ p,p < 2→∀ h:p < m12.length,m12[p].length=2:=by decide +kernel
theorem ok12 {p q : Nat} (hp:p < m12.length) (x:P4 × Int):okM (m12.set p (m12[p].set q x)):=by
  have h2:p < 2:=hp
  refine⟨by rw[List.length_set];decide,by rw[List.length_set];decide,fun r hr=>?_⟩
  rcases List.mem_or_eq_of_mem_set hr with hr | rfl
  · have all:∀ r∈m12,r.length < 1000000:=by decide
    exact all r hr
  · rw[List.length_set,m12_row p h2 hp]
    decide
theorem two_ints {H : PH} {a b c:Nat} {k l:List Int} {t:TypeId} (ha:IntsH H (.slice (some ⟨a,0,none⟩) 2 2) k) (hb:IntsH H (.slice (some ⟨b,0,none⟩) 2 2) l) (hc:H c=some (.cells ⟨[.slice (some ⟨a,0,none⟩) 2 2,.slice (some ⟨b,0,none⟩) 2 2]⟩ t (0,0))):IntssH H (.slice (some ⟨c,0,none⟩) 2 2) [k,l]:=by
  refine⟨[.slice (some ⟨a,0,none⟩) 2 2,.slice (some ⟨b,0,none⟩) 2 2],rfl,⟨_,_,rfl,.inr ⟨c,0,_,_,_,rfl,hc,rfl⟩⟩,fun i l' u h1 h2=>?_⟩
  match i with
  | 0=>cases h1;cases h2;exact ha
  | 1=>cases h1;cases h2;exact hb
  | i+2=>simp at h1
theorem setNK {C : Prop} {O:PH} {base:Option Addr} {n cap:Nat} {us:List Value} {m:Mx} (ho:OwnS O 1 31 (.slice base n cap) (us.map fun u=>[u])) (h:RowsS O us m) {i k:Nat} (hi:i < m.length) (hk:k < m[i].length) (x:P4 × Int)
    (f:∀ (ab b c:Nat) cs,base=some ⟨ab,0,none⟩→n=m.length→(∀ H,Rd H O ⟨ab,0+i*1,none⟩ 1 [.slice (some ⟨b,0,none⟩) m[i].length c])→O b=some (.cells ⟨cs⟩ 33 (0,0))→0+k*5+5≤cs.length →
      OwnS (PH.ins O b (.cells ⟨cs.take (0+k*5)++cellsOf x++cs.drop (0+k*5+5)⟩ 33 (0,0))) 1 31 (.slice base n cap) (us.map fun u=>[u])→RowsS (PH.ins O b (.cells ⟨cs.take (0+k*5)++cellsOf x++cs.drop (0+k*5+5)⟩ 33 (0,0))) us (m.set i (m[i].set k x))→C):C:=by
  obtain⟨b,c,cs,h1,h2,h3,h4⟩:=h.setN hi hk x
  have hu:i < us.length:=by rw[h.len];exact hi
  rcases ho.2 with⟨_,e⟩ | ⟨ab,cap',sp,e,hO,hcap,hsp⟩
  · have:us=[]:=by simpa using e
    rw[this] at hu
    simp at hu
  · rw[List.length_map,h.len] at e
    cases e
    refine f ab b c cs rfl rfl (fun H=>⟨rfl,rfl,_,_,_,.inr hO,?_⟩) h2 h3 (OwnS.other ho h2 (by decide)) h4
    rw[flat_ones']
    dsimp only
    rw[Nat.zero_add,Nat.mul_one,List.drop_append_of_le_length (by omega)]
    rw[List.getElem?_eq_getElem hu] at h1
    rw[List.drop_eq_getElem_cons hu,Option.some.inj h1]
    rfl
theorem NumH.rowK {C : Prop} {H:PH} {base:Option Addr} {n cap:Nat} {m:Mx} (h:MatH H (.slice base n cap) m) {i:Nat} (hi:i < m.length) (f:∀ ab off rb rc,base=some ⟨ab,off,none⟩→(∀ H' O,Sub H H'→Rd H' O ⟨ab,off+i*1,none⟩ 1 [.slice rb m[i].length rc])→NumH H (.slice rb m[i].length rc) m[i]→C):C:=by
  obtain⟨ab,off,rb,rc,h1,h2,h3⟩:=h.rd (O:=emp) hi
  exact f ab off rb rc h1 (fun H' O hs=>Rd_up h2 hs) h3
theorem OwnS.slK {C : Prop} {O:PH} {sz:Nat} {t:TypeId} {v:Value} {xs:List (List Value)} (h:OwnS O sz t v xs) (k:∀ b n c,v=.slice b n c→C):C:=by
  obtain⟨b,n,c,e⟩:=OwnS.sl h
  exact k b n c e
theorem MatH.slK {C : Prop} {H:PH} {v:Value} {m:Mx} (h:MatH H v m) (k:∀ b c,v=.slice b m.length c→C):C:=by
  obtain⟨b,c,e⟩:=MatH.sl h
  exact k b c e
theorem W_pubRow {r : Option Nat} {c:Code} {env:List En} {loc:List (Option B)} {H O:PH} {K:Exit→S→Prop} {v:Value} {us:List Value} {m:Mx} (ho:OwnS O 1 31 v (us.map fun u=>[u])) (hr:RowsS O us m) (k:∀ H',Sub H H'→MatH H' v m→W Tryz.prog r c ⟨env,loc,H',emp⟩ K):W Tryz.prog r c ⟨env,loc,H,O⟩ K:=
  W_pre fun hd=>⟨_,_,.all hd,k _ (un_left _ _) (RowsS.share hd ho hr)⟩
structure LK (H0 : PH) (b k:Nat) (L:Nat→Bool) (V:Nat→Value) (H O:PH):Prop where
  sub:Sub H0 H
  v0:L 0=true→V 0=.slice (some ⟨b,0,none⟩) k k
  v1:L 1=true→∃ c,V 1=.slice (some ⟨c,0,none⟩) 1 1∧H c=some (.cells ⟨[.slice (some ⟨b,0,none⟩) k k]⟩ 31 (0,0))
  v2:L 2=true→V 2=.int .i64 k
  v3:L 3=true→∃ c,V 3=.slice (some ⟨c,0,none⟩) k k∧O c=some (.cells ⟨List.replicate k (.slice none 0 0)⟩ 31 (0,0))
  v4:L 4=true→L 1=true∧V 4=V 1
  v5:L 5=true→L 3=true∧V 5=V 3
theorem LK.step {H0 : PH} {b k:Nat} {L:Nat→Bool} {V:Nat→Value} {H O H' O':PH} (h:LK H0 b k L V H O) {i:Nat} {v:Value} (hL:L i=false) (hH:Sub H H') (hO:Sub O O') (w0:i=0→v=.slice (some ⟨b,0,none⟩) k k)
    (w1:i=1→∃ c,v=.slice (some ⟨c,0,none⟩) 1 1∧H' c=some (.cells ⟨[.slice (some ⟨b,0,none⟩) k k]⟩ 31 (0,0))) (w2:i=2→v=.int .i64 k)
    (w3:i=3→∃ c,v=.slice (some ⟨c,0,none⟩) k k∧O' c=some (.cells ⟨List.replicate k (.slice none 0 0)⟩ 31 (0,0))) (w4:i=4→L 1=true∧v=V 1) (w5:i=5→L 3=true∧v=V 3):LK H0 b k (setL L i) (setV V i v) H' O':=by
  have S:=fun (k:Nat) (hk:i ≠ k)=>setL_nq (L:=L) hk
  have T:=fun (k:Nat) (hk:i ≠ k)=>setV_nq (V:=V) (v:=v) hk
  have n4:∀ {q:Nat},(setL L i) q=true→i ≠ q→L q=true:=fun e hq=>by rwa [S _ hq] at e
  refine⟨h.sub.trans hH,fun e=>?_,fun e=>?_,fun e=>?_,fun e=>?_,fun e=>?_,fun e=>?_⟩
  · by_cases q:i=0
    · subst q;rw[setV_aq];exact w0 rfl
    · rw[T 0 q];exact h.v0 (n4 e q)
  · by_cases q:i=1
    · subst q;rw[setV_aq];exact w1 rfl
    · rw[T 1 q]
      obtain⟨c,e1,e2⟩:=h.v1 (n4 e q)
      exact⟨c,e1,hH _ _ e2⟩
  · by_cases q:i=2
    · subst q;rw[setV_aq];exact w2 rfl
    · rw[T 2 q];exact h.v2 (n4 e q)
  · by_cases q:i=3
    · subst q;rw[setV_aq];exact w3 rfl
    · rw[T 3 q]
      obtain⟨c,e1,e2⟩:=h.v3 (n4 e q)
      exact⟨c,e1,hO _ _ e2⟩
  · by_cases q:i=4
    · subst q
      rw[setV_aq,S 1 (by decide),T 1 (by decide)]
      exact w4 rfl
    · have h4:=h.v4 (n4 e q)
      have q1:i ≠ 1:=fun e=>by rw[e,h4.1] at hL;cases hL
      rw[T 4 q,S 1 q1,T 1 q1]
      exact h4
  · by_cases q:i=5
    · subst q
      rw[setV_aq,S 3 (by decide),T 3 (by decide)]
      exact w5 rfl
    · have h5:=h.v5 (n4 e q)
      have q3:i ≠ 3:=fun e=>by rw[e,h5.1] at hL;cases hL
      rw[T 5 q,S 3 q3,T 3 q3]
      exact h5
def zrow (k : Nat):List (P4 × Int):=List.replicate k (P4.zero,0)
theorem zrow_cells (k : Nat):(List.replicate (k:Int).toNat [Value.int .i64 0,.int .i64 0,.int .i64 0,.int .i64 0,.int .i64 0]).flatten=cellsN (zrow k):=by
  unfold cellsN zrow
  rw[List.map_replicate,Int.toNat_natCast]
  rfl
theorem zrow_num {H : PH} {b k:Nat} (h:H b=some (.cells ⟨cellsN (zrow k)⟩ 33 (0,0))):NumH H (.slice (some ⟨b,0,none⟩) k k) (zrow k):=by
  have hl:(zrow k).length=k:=by simp[zrow]
  refine⟨_,_,by rw[hl],.inr ⟨b,0,_,_,_,rfl,h,?_⟩⟩
  rw[List.drop_zero]
  exact List.take_of_length_le (Nat.le_refl _)
theorem W_pubB {r : Option Nat} {c:Code} {env:List En} {loc:List (Option B)} {H O:PH} {K:Exit→S→Prop} {b:Nat} {o:Obj} (hb:O b=some o) (k:∀ H',Sub H H'→H' b=some o→W Tryz.prog r c ⟨env,loc,H',emp⟩ K):W Tryz.prog r c ⟨env,loc,H,O⟩ K:=
  W_pre fun hd=>⟨_,_,.all hd,k _ (un_left _ _) (un_right hd hb)⟩
structure Fill (H O : PH) (c:Nat) (us:List Value) (rows:Mx) (k:Nat):Prop where
  main:O c=some (.cells ⟨us⟩ 31 (0,0))
  l1:us.length=k
  l2:rows.length=k
  row:∀ (j:Nat) r u,rows[j]?=some r→us[j]?=some u→NumH H u r
theorem Fill.up {H H' O : PH} {c:Nat} {us:List Value} {rows:Mx} {k:Nat} (h:Fill H O c us rows k) (hs:Sub H H'):Fill H' O c us rows k:=⟨h.main,h.l1,h.l2,fun j r u a b=>(h.row j r u a b).up hs⟩
theorem Fill.start {H O : PH} {c k:Nat} (h:O c=some (.cells ⟨List.replicate k (.slice none 0 0)⟩ 31 (0,0))):Fill H O c (List.replicate k (.slice none 0 0)) (List.replicate k []) k:=by
  refine⟨h,by simp,by simp,fun j r u h1 h2=>?_⟩
  rw[List.getElem?_replicate] at h1 h2
  split at h1
  · rename_i hj
    rw[if_pos hj] at h2
    cases h1;cases h2
    exact⟨_,_,rfl,.inl ⟨rfl,rfl⟩⟩
  · cases h1
theorem Fill.set {H O : PH} {c:Nat} {us:List Value} {rows:Mx} {k:Nat} (h:Fill H O c us rows k) {i:Nat} (hi:i < k) {u:Value} {r:List (P4 × Int)} (hu:NumH H u r):Fill H (PH.ins O c (.cells ⟨us.set i u⟩ 31 (0,0))) c (us.set i u) (rows.set i r) k:=by
  refine⟨ins_same _ _ _,by rw[List.length_set];exact h.l1,by rw[List.length_set];exact h.l2,fun j r' u' h1 h2=>?_⟩
  by_cases e:i=j
  · subst e
    rw[List.getElem?_set_self (by rw[h.l2];exact hi)] at h1
    rw[List.getElem?_set_self (by rw[h.l1];exact hi)] at h2
    cases h1;cases h2
    exact hu
  · rw[List.getElem?_set_ne e] at h1 h2
    exact h.row j r' u' h1 h2
theorem Fill.mat {H O : PH} {c:Nat} {us:List Value} {rows:Mx} {k:Nat} (h:Fill H O c us rows k) (hd:Dis H O):MatH (un H O) (.slice (some ⟨c,0,none⟩) k k) rows:=by
  refine⟨us,h.l1.trans h.l2.symm,⟨_,_,by rw[h.l2],.inr ⟨c,0,_,_,_,rfl,un_right hd h.main,?_⟩⟩,fun j r u a b=>(h.row j r u a b).up (un_left _ _)⟩
  rw[List.drop_zero]
  exact List.take_of_length_le (Nat.le_refl _)
theorem one_rowJ {H : PH} {c b k:Nat} {l:List (P4 × Int)} {t:TypeId} (hc:H c=some (.cells ⟨[.slice (some ⟨b,0,none⟩) k k]⟩ t (0,0))) (hl:NumH H (.slice (some ⟨b,0,none⟩) k k) l):MatH H (.slice (some ⟨c,0,none⟩) 1 1) [l]:=by
  refine⟨[.slice (some ⟨b,0,none⟩) k k],rfl,⟨_,_,rfl,.inr ⟨c,0,_,_,_,rfl,hc,rfl⟩⟩,fun j r u h1 h2=>?_⟩
  match j with
  | 0=>cases h1;cases h2;exact hl
  | j+1=>simp at h1
theorem one_num {H : PH} {b:Nat} {x:P4 × Int} (h:H b=some (.cells ⟨cellsOf x⟩ 33 (0,0))):NumH H (.slice (some ⟨b,0,none⟩) 1 1) [x]:=by
  refine⟨_,_,rfl,.inr ⟨b,0,_,_,_,rfl,h,?_⟩⟩
  simp[cellsN,cellsOf]
inductive As where
  | eq (v:Value)
  | mat (m:Mx)
  | num (l:List (P4 × Int))
  | ints (l:List Int)
  | intss (l:List (List Int))
def As.holds (H : PH) (x:Value):As→Prop
  | .eq v=>x=v
  | .mat m=>MatH H x m
  | .num l=>NumH H x l
  | .ints l=>IntsH H x l
  | .intss l=>IntssH H x l
theorem As.up {H H' : PH} {x:Value} {s:As} (h:s.holds H x) (hs:Sub H H'):s.holds H' x:=by
  cases s with
  | eq v=>exact h
  | mat m=>exact MatH.up h hs
  | num l=>exact NumH.up h hs
  | ints l=>exact IntsH.up h hs
  | intss l=>exact IntssH.up h hs
def As.yes : As→Bool
  | .eq (.bool b)=>b
  | _=>false
theorem As.yes_eq {H : PH} {x:Value} {s:As} (h:s.holds H x) (hy:s.yes=true):x=.bool true:=by
  unfold As.yes at hy
  split at hy
  · subst hy;exact h
  · cases hy
def AsS (sps : List As):Nat→Value→PH→Prop:=fun i x H=>(sps.getD i (.eq undef)).holds H x
theorem AsS.up {sps : List As} {i:Nat} {x:Value} {H H':PH} (h:AsS sps i x H) (hs:Sub H H'):AsS sps i x H':=As.up h hs
def guardsMet (ops : List Oper) (sps:List As):Bool:=ops.all fun o=>match o.guard with
  | none=>true
  | some (g,b)=>b && (sps.getD g (.eq undef)).yes
theorem guards_met {ops : List Oper} {sps:List As} (h:guardsMet ops sps=true) {U0:PH} (i:Nat) (o:Oper) (g:Nat) (b:Bool) (ho:ops[i]?=some o) (hg:o.guard=some (g,b)) (L:Nat→Bool) (V:Nat→Value) (H' O':PH) (hI:FI U0 (AsS sps) L V H' O') (hL:L g=true):V g=.bool b:=by
  have:=List.all_eq_true.1 h o (List.mem_of_getElem? ho)
  rw[hg] at this
  simp only[Bool.and_eq_true] at this
  rw[this.1]
  exact As.yes_eq (hI.sp g hL) this.2
def sp87 : List As:=[.eq (.bool true),.eq (.bool true),.num [],.mat [[]],.eq (.bool true),.eq (.bool true),.eq (.bool true),.eq (.agg ⟨[.int .i64 1,.int .i64 0,.int .i64 0,.int .i64 0,.int .i64 0]⟩),.num [((⟨1,0,0,0⟩:P4),(0:Int))],.num [],.mat [[((⟨1,0,0,0⟩:P4),(0:Int))],[]],.eq (.bool true),.eq (.bool true),.eq (.bool true),.mat (List.replicate 9 []),.eq (.agg ⟨[.int .i64 1,.int .i64 0,.int .i64 0,.int .i64 0,.int .i64 0]⟩),.eq (.bool true),.eq (.bool true),.eq (.bool true),.eq (.bool true),.eq (.bool true),.eq (.bool true),.ints [1],.intss [[1]],.mat (intsF [[1]]),.eq (.bool true),.eq (.bool true),.eq (.bool true),.ints [1],.intss [[1]],.mat (intsF [[1]]),.ints [9223372036854775807],.eq (.bool true),.eq (.bool true),.eq (.bool true),.eq (.bool true),.eq (.bool true),.eq (.bool true)]
theorem nil_mat (H : PH):MatH H (.slice none 0 0) []:=⟨[],rfl,⟨_,_,rfl,.inl ⟨rfl,rfl⟩⟩,fun i r u h=>(by cases h)⟩
theorem nil_num (H : PH):NumH H (.slice none 0 0) []:=⟨_,_,rfl,.inl ⟨rfl,rfl⟩⟩
theorem empty_num (H : PH) (b:Nat):NumH H (.slice (some ⟨b,0,none⟩) 0 0) []:=⟨_,_,rfl,.inl ⟨rfl,rfl⟩⟩
theorem row1 {H : PH} {c:Nat} {v:Value} {l:List (P4 × Int)} {t:TypeId} (hc:H c=some (.cells ⟨[v]⟩ t (0,0))) (hl:NumH H v l):MatH H (.slice (some ⟨c,0,none⟩) 1 1) [l]:=by
  refine⟨[v],rfl,⟨_,_,rfl,.inr ⟨c,0,_,_,_,rfl,hc,rfl⟩⟩,fun j r u h1 h2=>?_⟩
  match j with
  | 0=>cases h1;cases h2;exact hl
  | j+1=>simp at h1
theorem row2 {H : PH} {c:Nat} {v w:Value} {l k:List (P4 × Int)} {t:TypeId} (hc:H c=some (.cells ⟨[v,w]⟩ t (0,0))) (hl:NumH H v l) (hk:NumH H w k):MatH H (.slice (some ⟨c,0,none⟩) 2 2) [l,k]:=by
  refine⟨[v,w],rfl,⟨_,_,rfl,.inr ⟨c,0,_,_,_,rfl,hc,rfl⟩⟩,fun j r u h1 h2=>?_⟩
  match j with
  | 0=>cases h1;cases h2;exact hl
  | 1=>cases h1;cases h2;exact hk
  | j+2=>simp at h1
theorem nine_mat {H : PH} {c:Nat} (hc:H c=some (.cells ⟨List.replicate 9 (.slice none 0 0)⟩ 31 (0,0))):MatH H (.slice (some ⟨c,0,none⟩) 9 9) (List.replicate 9 []):=by
  refine⟨List.replicate 9 (.slice none 0 0),rfl,⟨_,_,rfl,.inr ⟨c,0,_,_,_,rfl,hc,rfl⟩⟩,fun j r u h1 h2=>?_⟩
  rw[List.getElem?_replicate] at h1 h2
  split at h1
  · rename_i hj
    rw[if_pos hj] at h2
    cases h1;cases h2
    exact nil_num _
  · cases h1
theorem ints1 {H : PH} {b:Nat} {x:Int} (h:H b=some (.cells ⟨[.int .i64 x]⟩ 3 (0,0))):IntsH H (.slice (some ⟨b,0,none⟩) 1 1) [x]:=ints_b (l:=[x]) h
theorem MatN.slL {H : PH} {v:Value} {l:List (P4 × Int)} (h:NumH H v l):∃ b c,v=.slice b l.length c:=by
  obtain⟨b,c,e,_⟩:=h
  exact⟨b,c,e⟩
theorem intssJ1 {H : PH} {c:Nat} {v:Value} {k:List Int} {t:TypeId} (hc:H c=some (.cells ⟨[v]⟩ t (0,0))) (ha:IntsH H v k):IntssH H (.slice (some ⟨c,0,none⟩) 1 1) [k]:=by
  refine⟨[v],rfl,⟨_,_,rfl,.inr ⟨c,0,_,_,_,rfl,hc,rfl⟩⟩,fun i l' u h1 h2=>?_⟩
  match i with
  | 0=>cases h1;cases h2;exact ha
  | i+1=>simp at h1
theorem RowsA.at {O : PH} {b0 N:Nat} {rvs:List Value} {rows:Mx} {obs:List (Option Nat)} (h:RowsA O b0 rvs rows obs) (H:PH) {i:Nat} (hi:i < rows.length) (hb:∀ r∈rows,r.length≤N) :
    ∃ r ob rb rc,rows[i]?=some r∧obs[i]?=some ob∧VecA O (.slice rb r.length rc) r ob∧r.length≤N∧Rd H O ⟨b0,0+i*1,none⟩ 1 [.slice rb r.length rc]:=by
  have l1:=h.l1
  have l2:=h.l2
  have hr:rows[i]?=some rows[i]:=List.getElem?_eq_getElem hi
  have hob:obs[i]?=some (obs[i]'(by omega)):=List.getElem?_eq_getElem (by omega)
  have hvr:=h.row i _ _ _ (List.getElem?_eq_getElem (by omega)) hr hob
  obtain⟨rb,rc,er⟩:=VecA.sl hvr
  rw[er] at hvr
  refine⟨_,_,rb,rc,hr,hob,hvr,hb _ (List.getElem_mem hi),rfl,rfl,_,_,_,.inr h.main,?_⟩
  refine (drop_take_one rvs i (by omega)).trans ?_
  rw[er]
theorem VecA.snoc' {O : PH} {v:Value} {r:Vec} {x:P4 × Int} {ob:Option Nat} (h:OwnA O 5 33 v (r.map cellsOf++[cellsOf x]) ob):∃ b c,VecA O v (r++[x]) ob∧v=.slice b (r++[x]).length c:=by
  have h4':VecA O v (r++[x]) ob:=by
    unfold VecA
    rw[List.map_append]
    exact h
  obtain⟨b,c,e⟩:=VecA.sl h4'
  exact⟨b,c,h4',e⟩
theorem RowsA.atK {C : Prop} {O:PH} {b0 N:Nat} {rvs:List Value} {rows:Mx} {obs:List (Option Nat)} (h:RowsA O b0 rvs rows obs) (H:PH) {i:Nat} (hi:i < rows.length) (hb:∀ r∈rows,r.length≤N)
    (k:∀ r ob rb rc,rows[i]?=some r→obs[i]?=some ob→VecA O (.slice rb r.length rc) r ob→r.length≤N→Rd H O ⟨b0,0+i*1,none⟩ 1 [.slice rb r.length rc]→C):C:=by
  obtain⟨r,ob,rb,rc,h1,h2,h3,h4,h5⟩:=h.at H hi hb
  exact k r ob rb rc h1 h2 h3 h4 h5
theorem VecA.snocK {C : Prop} {O:PH} {v:Value} {r:Vec} {x:P4 × Int} {ob:Option Nat} (h:OwnA O 5 33 v (r.map cellsOf++[cellsOf x]) ob) (k:∀ b c,VecA O v (r++[x]) ob→v=.slice b (r++[x]).length c→C):C:=by
  obtain⟨b,c,h1,h2⟩:=VecA.snoc' h
  exact k b c h1 h2
theorem RowsA.del {O : PH} {b0 bo:Nat} {o:Obj} {rvs:List Value} {rows:Mx} {obs:List (Option Nat)} (h:RowsA O b0 rvs rows obs) (hb:b0 ≠ bo) (hne:∀ (q:Nat) x,obs[q]?=some x→x ≠ some bo):RowsA (PH.del O bo) b0 rvs rows obs:=by
  refine⟨(del_ne _ hb).trans h.main,h.l1,h.l2,fun i v r ob h1 h2 h3=>?_,h.ap,h.ne⟩
  refine OwnA.keep (oc:=some bo) (h.row i v r ob h1 h2 h3) (fun n o hn e=>(del_ne _ fun e2=>e (by rw[e2])).trans hn) fun n e e2=>?_
  cases e
  exact hne i ob h3 e2
theorem Dis.del {H O : PH} (h:Dis H O) (b:Nat):Dis H (PH.del O b):=fun n=>by
  rcases h n with h | h
  · exact .inl h
  · right
    by_cases e:n=b
    · subst e
      unfold PH.del
      simp
    · exact (del_ne _ e).trans h
theorem RowsA.pubBut {H O : PH} {bm bo n:Nat} {o:Obj} {rvs:List Value} {rows:Mx} {obs:List (Option Nat)} (hd:Dis H O) (h:RowsA O bm rvs rows obs) (hb:O bo=some o) (hmo:bm ≠ bo) (hne:∀ (q:Nat) x,obs[q]?=some x→x ≠ some bo) (hl:n=rows.length) :
    ∃ H' O',Repart H O H' O'∧MatH H' (.slice (some ⟨bm,0,none⟩) n n) rows∧O' bo=some o:=
  ⟨_,_,Repart.but hd hb,(h.del (o:=o) hmo hne).mat (Dis.del hd bo) hl,ins_same _ _ _⟩
theorem RowsA.pubButK {C : Prop} {H O:PH} {bm bo n:Nat} {o:Obj} {rvs:List Value} {rows:Mx} {obs:List (Option Nat)} (hd:Dis H O) (h:RowsA O bm rvs rows obs) (hb:O bo=some o) (hmo:bm ≠ bo) (hne:∀ (q:Nat) x,obs[q]?=some x→x ≠ some bo) (hl:n=rows.length)
    (k:∀ H' O',Repart H O H' O'→MatH H' (.slice (some ⟨bm,0,none⟩) n n) rows→O' bo=some o→C):C:=by
  obtain⟨H',O',h1,h2,h3⟩:=RowsA.pubBut hd h hb hmo hne hl
  exact k H' O' h1 h2 h3
set_option maxHeartbeats 8000000 in
theorem j3 (H : PH):Cl Tryz.prog 3 [] H emp fun r _ _=>r=.bool true:=by
  refine Cl_of (pol:=polJ) Γok Tryz.func3 (by kernel_rfl) rfl ?_
  conv=>whnf
  refine W_hide fun Kk hKk=>?_
  refine W_loop (pol:=polJ) Γok (Nat × PH × PH × Value) (fun i=>i.1≤16∧Sub H i.2.1∧MsT i.2.1 i.2.2.1 i.2.2.2 i.1) (fun i=>16 - i.1) (fun i=>[(32,.v (.int .i64 i.1)),(1,.v i.2.2.2)]) (fun _=>[]) (fun i=>i.2.1) (fun i=>i.2.2.1) ⟨(0,H,emp,.slice none 0 0),⟨Nat.zero_le _,Sub.refl _,[],[],⟨by simp,.inl ⟨rfl,rfl⟩⟩,MsV.nil _,Nat.le_refl _⟩,rfl,rfl,?_⟩ ?_
  · conv=>whnf
    repeat (refine⟨rfl,?_⟩;conv=>whnf)
    exact trivial
  rintro ⟨k,kH,kO,v⟩ ⟨k1,ks,hv⟩
  dsimp only at k1 ks hv
  conv=>whnf
  refine if_intro (fun kc=>?_) (fun kc=>?_)
  · have ki:k < 16:=by
      have:=of_decide_eq_true kc
      omega
    conv=>whnf
    refine ((c18 k kH).frame (Parts.emp kO)).mono fun r H1 O1 s1 hr=>?_
    obtain⟨M1,hp1,u,rfl,hu⟩:=hr
    replace hv:=MsT.frm hv s1 hp1
    replace ks:=ks.trans s1
    clear hp1 s1
    have hlen:=ofR_len k
    have hok:=ofR_ok k
    generalize OfR k=A at hu hlen hok ⊢
    obtain⟨m,e⟩:=A
    dsimp only at hu hlen hok
    obtain⟨ub,uc,rfl⟩:=MatH.sl hu
    conv=>whnf
    intro b1 hb1 kb1
    conv=>whnf
    have q1:=sub_ins H1 (.cells ⟨([1,0,2]:List Int).map fun x=>.int .i64 x⟩ 3 (0,0)) hb1
    rw[third k ki]
    refine dec_intro (by omega) ?_
    conv=>whnf
    refine ((c3 k _ m ([1,0,2].take (min (k / 3) 3)) (by omega) (by simp;omega) _ _ _ (hu.up q1) (pre_ints (ins_same _ _ _) (by simp;omega))).frame (Parts.emp O1)).mono fun r H2 O2 s2 hr=>?_
    obtain⟨M2,hp2,rfl⟩:=hr
    replace hv:=MsT.frm hv (q1.trans s2) hp2
    replace ks:=ks.trans (q1.trans s2)
    replace hu:=hu.up (q1.trans s2)
    clear hp2
    conv=>whnf
    refine if_intro (fun lc=>?_) (fun lc=>?_)
    · conv=>whnf
      intro b2 hb2 kb2
      conv=>whnf
      have q2:=sub_ins H2 (.cells ⟨[.slice ub m.length uc]⟩ 23 (0,0)) hb2
      obtain⟨vs,ms,ho,hv,hn⟩:=hv
      refine append_one' (xs:=vs.map fun u=>[u]) (y:=[.slice ub m.length uc]) ho rfl rfl (by simp[Value.oneCell']) ⟨_,_,_,rfl,rfl,Rd.whole (ins_same _ _ _)⟩ (by simp[hv.len];omega) fun w O3 ho3 _=>?_
      conv=>whnf
      refine⟨(k+1,_,O3,w),⟨by dsimp only;omega,ks.trans q2,vs++[.slice ub m.length uc],ms++[m],by rw[List.map_append];exact ho3,(hv.up q2).snoc (hu.up q2) (hok (by have:=of_decide_eq_true lc;omega)),by simp;omega⟩,by dsimp only;omega,?_⟩
      refine⟨rfl,rfl,?_⟩
      conv=>whnf
      repeat (refine⟨rfl,?_⟩;conv=>whnf)
      refine⟨by show En.v (.int .i64 (IntKind.i64.wrap (k+1)))=_;rw[wrap_id (by omega) (by omega)];rfl,?_⟩
      conv=>whnf
      repeat (refine⟨rfl,?_⟩;conv=>whnf)
      exact trivial
    · conv=>whnf
      obtain⟨vs,ms,ho,hv,hn⟩:=hv
      refine⟨(k+1,_,O2,v),⟨by dsimp only;omega,ks,vs,ms,ho,hv,by omega⟩,by dsimp only;omega,?_⟩
      refine⟨rfl,rfl,?_⟩
      conv=>whnf
      repeat (refine⟨rfl,?_⟩;conv=>whnf)
      refine⟨by show En.v (.int .i64 (IntKind.i64.wrap (k+1)))=_;rw[wrap_id (by omega) (by omega)];rfl,?_⟩
      conv=>whnf
      repeat (refine⟨rfl,?_⟩;conv=>whnf)
      exact trivial
  obtain⟨vn,vb,vc,rfl⟩:=MsT.sl hv
  conv=>whnf
  rw[← hKk]
  clear hKk Kk
  conv=>whnf
  refine W_pre fun hd=>⟨_,_,.all hd,?_⟩
  obtain⟨ab,ac,ms,e,hl,hms,hok⟩:=hv.pub hd
  cases e
  replace hl:ms.length≤16:=by omega
  clear k1 kc
  replace ks:=ks.trans (un_left kH kO)
  generalize un kH kO=H1 at ks hms ⊢
  clear hv hd
  refine W_hide fun Ki hKi=>?_
  refine W_loop (pol:=polJ) Γok (Nat × PH) (fun i=>i.1≤ms.length∧Sub H1 i.2) (fun i=>ms.length - i.1) (fun i=>[(61,.v (.int .i64 i.1))]) (fun _=>[]) (fun i=>i.2) (fun _=>emp) ⟨(0,H1),⟨Nat.zero_le _,Sub.refl _⟩,rfl,rfl,?_⟩ ?_
  · conv=>whnf
    repeat (refine⟨rfl,?_⟩;conv=>whnf)
    exact trivial
  rintro ⟨i,iH⟩ ⟨i1,is⟩
  dsimp only at i1 is
  conv=>whnf
  refine if_intro (fun ic=>?_) (fun ic=>?_)
  · have ii:i < ms.length:=by
      have:=of_decide_eq_true ic
      omega
    obtain⟨ab',ao,u,rfl,hrd,hu⟩:=hms.rdI ii
    conv=>whnf
    refine dec_intro (by omega) ?_
    conv=>whnf
    refine⟨_,hrd _ _ is,?_⟩
    obtain⟨ub,uc,rfl⟩:=MatH.sl hu
    have om:=hok _ (List.getElem_mem ii)
    generalize ms[i]=m at hu om ⊢
    conv=>whnf
    refine W_hide fun Kj hKj=>?_
    refine W_loop (pol:=polJ) Γok (Nat × PH) (fun j=>j.1≤ms.length∧Sub H1 j.2) (fun j=>ms.length - j.1) (fun j=>[(67,.v (.int .i64 j.1))]) (fun _=>[]) (fun j=>j.2) (fun _=>emp) ⟨(0,iH),⟨Nat.zero_le _,is⟩,rfl,rfl,?_⟩ ?_
    · conv=>whnf
      repeat (refine⟨rfl,?_⟩;conv=>whnf)
      exact trivial
    clear is
    rintro ⟨j,jH⟩ ⟨j1,js⟩
    dsimp only at j1 js
    conv=>whnf
    refine if_intro (fun jc=>?_) (fun jc=>?_)
    · have ji:j < ms.length:=by
        have:=of_decide_eq_true jc
        omega
      obtain⟨_,_,u2,e2,hrd2,hu2⟩:=hms.rdI ji
      cases e2
      conv=>whnf
      refine dec_intro (by omega) ?_
      conv=>whnf
      refine⟨_,hrd2 _ _ js,?_⟩
      obtain⟨ub2,uc2,rfl⟩:=MatH.sl hu2
      have om2:=hok _ (List.getElem_mem ji)
      generalize ms[j]=m2 at hu2 om2 ⊢
      conv=>whnf
      refine (jAsk m m2 om.1 om.2.1 om2.2.1 om.2.2 _ _ _ (hu.up js) (hu2.up js)).val fun H3 s3=>?_
      conv=>whnf
      refine⟨(j+1,H3),⟨ji,js.trans s3⟩,by dsimp only;omega,?_⟩
      refine⟨rfl,rfl,?_⟩
      conv=>whnf
      repeat (refine⟨rfl,?_⟩;conv=>whnf)
      refine⟨by show En.v (.int .i64 (IntKind.i64.wrap (j+1)))=_;rw[wrap_id (by omega) (by omega)];rfl,?_⟩
      conv=>whnf
      repeat (refine⟨rfl,?_⟩;conv=>whnf)
      exact trivial
    clear j1 jc
    conv=>whnf
    rw[← hKj]
    clear hKj Kj
    conv=>whnf
    refine W_hide fun Kp hKp=>?_
    refine W_loop (pol:=polJ) Γok (Int × PH) (fun p=>(-1≤p.1∧p.1≤4)∧Sub H1 p.2) (fun p=>(4 - p.1).toNat) (fun p=>[(9,.v (.int .i64 p.1))]) (fun _=>[]) (fun p=>p.2) (fun _=>emp) ⟨(-1,jH),⟨by dsimp only;omega,js⟩,rfl,rfl,?_⟩ ?_
    · conv=>whnf
      repeat (refine⟨rfl,?_⟩;conv=>whnf)
      exact trivial
    clear js
    rintro ⟨p,pH⟩ ⟨p1,ps⟩
    dsimp only at p1 ps
    conv=>whnf
    refine if_intro (fun pc=>?_) (fun pc=>?_)
    · have pi:p < 4:=of_decide_eq_true pc
      conv=>whnf
      refine W_hide fun Kq hKq=>?_
      refine W_loop (pol:=polJ) Γok (Int × PH) (fun q=>(-1≤q.1∧q.1≤4)∧Sub H1 q.2) (fun q=>(4 - q.1).toNat) (fun q=>[(10,.v (.int .i64 q.1))]) (fun _=>[]) (fun q=>q.2) (fun _=>emp) ⟨(-1,pH),⟨by dsimp only;omega,ps⟩,rfl,rfl,?_⟩ ?_
      · conv=>whnf
        repeat (refine⟨rfl,?_⟩;conv=>whnf)
        exact trivial
      clear ps
      rintro ⟨q,qH⟩ ⟨q1,qs⟩
      dsimp only at q1 qs
      conv=>whnf
      refine if_intro (fun qc=>?_) (fun qc=>?_)
      · have qi:q < 4:=of_decide_eq_true qc
        conv=>whnf
        intro b1 hb1 _
        conv=>whnf
        have s1:=sub_ins qH (.cells ⟨[.int .i64 p]⟩ 3 (0,0)) hb1
        have f1:IntsH (PH.ins qH b1 (.cells ⟨[.int .i64 p]⟩ 3 (0,0))) (.slice (some ⟨b1,0,none⟩) 1 1) [p]:=ints_new qH b1 [p]
        generalize hH1:PH.ins qH b1 (.cells ⟨[.int .i64 p]⟩ 3 (0,0))=qH1 at *
        intro b2 hb2 _
        conv=>whnf
        have s2:=sub_ins qH1 (.cells ⟨[.int .i64 p,.int .i64 q]⟩ 3 (0,0)) hb2
        have f2:IntsH (PH.ins qH1 b2 (.cells ⟨[.int .i64 p,.int .i64 q]⟩ 3 (0,0))) (.slice (some ⟨b2,0,none⟩) 2 2) [p,q]:=ints_new qH1 b2 [p,q]
        generalize hH2:PH.ins qH1 b2 (.cells ⟨[.int .i64 p,.int .i64 q]⟩ 3 (0,0))=qH2 at *
        intro b3 hb3 _
        conv=>whnf
        have s3:=sub_ins qH2 (.cells ⟨[.int .i64 p,.int .i64 q,.int .i64 1]⟩ 3 (0,0)) hb3
        have f3:IntsH (PH.ins qH2 b3 (.cells ⟨[.int .i64 p,.int .i64 q,.int .i64 1]⟩ 3 (0,0))) (.slice (some ⟨b3,0,none⟩) 3 3) [p,q,1]:=ints_new qH2 b3 [p,q,1]
        generalize hH3:PH.ins qH2 b3 (.cells ⟨[.int .i64 p,.int .i64 q,.int .i64 1]⟩ 3 (0,0))=qH3 at *
        intro b4 hb4 _
        conv=>whnf
        have s4:=sub_ins qH3 (.cells ⟨[.int .i64 2,.int .i64 p,.int .i64 q]⟩ 3 (0,0)) hb4
        have f4:IntsH (PH.ins qH3 b4 (.cells ⟨[.int .i64 2,.int .i64 p,.int .i64 q]⟩ 3 (0,0))) (.slice (some ⟨b4,0,none⟩) 3 3) [2,p,q]:=ints_new qH3 b4 [2,p,q]
        generalize hH4:PH.ins qH3 b4 (.cells ⟨[.int .i64 2,.int .i64 p,.int .i64 q]⟩ 3 (0,0))=qH4 at *
        intro b5 hb5 _
        conv=>whnf
        have s5:=sub_ins qH4 (.cells ⟨[.slice (some ⟨b1,0,none⟩) 1 1,.slice (some ⟨b2,0,none⟩) 2 2,.slice (some ⟨b3,0,none⟩) 3 3,.slice (some ⟨b4,0,none⟩) 3 3,.slice none 0 0]⟩ 28 (0,0)) hb5
        have hL:∀ x∈[Value.slice (some ⟨b1,0,none⟩) 1 1,.slice (some ⟨b2,0,none⟩) 2 2,.slice (some ⟨b3,0,none⟩) 3 3,.slice (some ⟨b4,0,none⟩) 3 3,.slice none 0 0],∃ ws:List Int,ws.length < 10∧IntsH (PH.ins qH4 b5 (.cells ⟨[.slice (some ⟨b1,0,none⟩) 1 1,.slice (some ⟨b2,0,none⟩) 2 2,.slice (some ⟨b3,0,none⟩) 3 3,.slice (some ⟨b4,0,none⟩) 3 3,.slice none 0 0]⟩ 28 (0,0))) x ws:=by
          intro x hx
          simp only[List.mem_cons,List.not_mem_nil,or_false] at hx
          rcases hx with rfl | rfl | rfl | rfl | rfl
          · exact⟨_,by simp,f1.up (s2.trans (s3.trans (s4.trans s5)))⟩
          · exact⟨_,by simp,f2.up (s3.trans (s4.trans s5))⟩
          · exact⟨_,by simp,f3.up (s4.trans s5)⟩
          · exact⟨_,by simp,f4.up s5⟩
          · exact⟨[],by decide,ints_nil _⟩
        have ss:=qs.trans (s1.trans (s2.trans (s3.trans (s4.trans s5))))
        clear f1 f2 f3 f4 s1 s2 s3 s4 s5 qs hH1 hH2 hH3 hH4
        generalize PH.ins qH4 b5 _=H6 at ss hL ⊢
        generalize hLL:[Value.slice (some ⟨b1,0,none⟩) 1 1,.slice (some ⟨b2,0,none⟩) 2 2,.slice (some ⟨b3,0,none⟩) 3 3,.slice (some ⟨b4,0,none⟩) 3 3,.slice none 0 0]=L at hL ⊢
        have hln:L.length=5:=by rw[← hLL];rfl
        clear hLL
        refine W_hide fun Kt hKt=>?_
        refine W_loop (pol:=polJ) Γok (Nat × PH) (fun t=>t.1≤5∧Sub H6 t.2) (fun t=>5 - t.1) (fun t=>[(97,.v (.int .i64 t.1))]) (fun _=>[]) (fun t=>t.2) (fun _=>emp) ⟨(0,H6),⟨Nat.zero_le _,Sub.refl _⟩,rfl,rfl,?_⟩ ?_
        · conv=>whnf
          repeat (refine⟨rfl,?_⟩;conv=>whnf)
          exact trivial
        rintro ⟨t,tH⟩ ⟨t1,ts⟩
        dsimp only at t1 ts
        conv=>whnf
        refine if_intro (fun tc=>?_) (fun tc=>?_)
        · have ti:t < 5:=by
            have:=of_decide_eq_true tc
            omega
          conv=>whnf
          refine dec_intro (by dsimp only;omega) ?_
          conv=>whnf
          refine at_vals (L:=L) (i:=t) (by omega) fun x hx=>?_
          obtain⟨ws,hw,hx⟩:=hL x hx
          obtain⟨xb,xc,rfl⟩:=IntsH.sl1 hx
          conv=>whnf
          refine (c3 p 3 m ws (by have:=om.2.1;omega) (by omega) _ _ _ (hu.up (ss.trans ts)) (IntsH.up hx ts)).val fun H7 s7=>?_
          conv=>whnf
          refine⟨(t+1,H7),⟨ti,ts.trans s7⟩,by dsimp only;omega,?_⟩
          refine⟨rfl,rfl,?_⟩
          conv=>whnf
          repeat (refine⟨rfl,?_⟩;conv=>whnf)
          refine⟨by show En.v (.int .i64 (IntKind.i64.wrap (t+1)))=_;rw[wrap_id (by omega) (by omega)];rfl,?_⟩
          conv=>whnf
          repeat (refine⟨rfl,?_⟩;conv=>whnf)
          exact trivial
        conv=>whnf
        rw[← hKt]
        clear hKt Kt
        conv=>whnf
        refine⟨(q+1,tH),⟨by dsimp only;omega,ss.trans ts⟩,by dsimp only;omega,?_⟩
        refine⟨rfl,rfl,?_⟩
        conv=>whnf
        repeat (refine⟨rfl,?_⟩;conv=>whnf)
        refine⟨by show En.v (.int .i64 (IntKind.i64.wrap (q+1)))=_;rw[wrap_id (by omega) (by omega)],?_⟩
        conv=>whnf
        repeat (refine⟨rfl,?_⟩;conv=>whnf)
        exact trivial
      conv=>whnf
      rw[← hKq]
      clear hKq Kq
      conv=>whnf
      refine⟨(p+1,qH),⟨by dsimp only;omega,qs⟩,by dsimp only;omega,?_⟩
      refine⟨rfl,rfl,?_⟩
      conv=>whnf
      repeat (refine⟨rfl,?_⟩;conv=>whnf)
      refine⟨by show En.v (.int .i64 (IntKind.i64.wrap (p+1)))=_;rw[wrap_id (by omega) (by omega)],?_⟩
      conv=>whnf
      repeat (refine⟨rfl,?_⟩;conv=>whnf)
      exact trivial
    conv=>whnf
    rw[← hKp]
    clear hKp Kp
    conv=>whnf
    refine⟨(i+1,pH),⟨ii,ps⟩,by dsimp only;omega,?_⟩
    refine⟨rfl,rfl,?_⟩
    conv=>whnf
    repeat (refine⟨rfl,?_⟩;conv=>whnf)
    refine⟨by show En.v (.int .i64 (IntKind.i64.wrap (i+1)))=_;rw[wrap_id (by omega) (by omega)];rfl,?_⟩
    conv=>whnf
    repeat (refine⟨rfl,?_⟩;conv=>whnf)
    exact trivial
  replace ks:=ks.trans is
  clear i1 ic is hms hok
  conv=>whnf
  rw[← hKi]
  clear hKi Ki
  conv=>whnf
  refine W_hide fun Ka hKa=>?_
  refine W_loop (pol:=polJ) Γok (Nat × PH) (fun a=>(1≤a.1∧a.1≤4)∧Sub H a.2) (fun a=>4 - a.1) (fun a=>[(13,.v (.int .i64 a.1))]) (fun _=>[]) (fun a=>a.2) (fun _=>emp) ⟨(1,iH),⟨by dsimp only;omega,ks⟩,rfl,rfl,?_⟩ ?_
  · conv=>whnf
    repeat (refine⟨rfl,?_⟩;conv=>whnf)
    exact trivial
  clear ks
  rintro ⟨a,aH⟩ ⟨a1,as_⟩
  dsimp only at a1 as_
  conv=>whnf
  refine if_intro (fun ac=>?_) (fun ac=>?_)
  · have ai:a < 4:=by
      have:=of_decide_eq_true ac
      omega
    conv=>whnf
    refine W_hide fun Kb hKb=>?_
    refine W_loop (pol:=polJ) Γok (Nat × PH) (fun a=>(1≤a.1∧a.1≤4)∧Sub H a.2) (fun a=>4 - a.1) (fun a=>[(14,.v (.int .i64 a.1))]) (fun _=>[]) (fun a=>a.2) (fun _=>emp) ⟨(1,aH),⟨by dsimp only;omega,as_⟩,rfl,rfl,?_⟩ ?_
    · conv=>whnf
      repeat (refine⟨rfl,?_⟩;conv=>whnf)
      exact trivial
    clear as_
    rintro ⟨b,bH⟩ ⟨b1,bs⟩
    dsimp only at b1 bs
    conv=>whnf
    refine if_intro (fun bc=>?_) (fun bc=>?_)
    · have bi:b < 4:=by
        have:=of_decide_eq_true bc
        omega
      conv=>whnf
      refine W_hide fun Kc hKc=>?_
      refine W_loop (pol:=polJ) Γok (Nat × PH) (fun a=>(1≤a.1∧a.1≤4)∧Sub H a.2) (fun a=>4 - a.1) (fun a=>[(15,.v (.int .i64 a.1))]) (fun _=>[]) (fun a=>a.2) (fun _=>emp) ⟨(1,bH),⟨by dsimp only;omega,bs⟩,rfl,rfl,?_⟩ ?_
      · conv=>whnf
        repeat (refine⟨rfl,?_⟩;conv=>whnf)
        exact trivial
      clear bs
      rintro ⟨c,cH⟩ ⟨c1,cs⟩
      dsimp only at c1 cs
      conv=>whnf
      refine if_intro (fun cc=>?_) (fun cc=>?_)
      · have ci:c < 4:=by
          have:=of_decide_eq_true cc
          omega
        clear ac bc cc
        conv=>whnf
        refine W_hide fun KR hKR=>?_
        refine W_freeL (pol:=polJ) Γok mixes 337 (by kernel_rfl) rfl (MK cH a b) ⟨rfl,fun h=>(by cases h),fun h=>(by cases h),fun h=>(by cases h),fun h=>(by cases h),fun h=>(by cases h),fun h=>(by cases h),fun h=>(by cases h)⟩ ⟨?_,?_,?_,?_,?_,?_,trivial⟩ ?_
        · intro L V H' O' hI hLi hsee
          conv=>whnf
          exact⟨⟨_,(List.append_nil _).symm⟩,_,rfl,hI.step hLi (by decide) (by decide) (fun _=>rfl) (fun h=>by cases h) (fun h=>by cases h) (fun h=>by cases h)⟩
        · intro L V H' O' hI hLi hsee
          have h0:=hI.v0 (hsee 0 (by kernel_rfl))
          conv=>whnf
          rw[h0]
          conv=>whnf
          refine dec_intro (by omega) ?_
          conv=>whnf
          refine dec_intro (by omega) ?_
          conv=>whnf
          refine dec_intro (by omega) ?_
          conv=>whnf
          intro c hc hO
          rw[rep1]
          conv=>whnf
          exact⟨⟨_,(List.append_nil _).symm⟩,_,rfl,hI.new1 hLi hO⟩
        · intro L V H' O' hI hLi hsee
          conv=>whnf
          exact⟨⟨_,(List.append_nil _).symm⟩,_,rfl,hI.step hLi (by decide) (by decide) (fun h=>by cases h) (fun _=>rfl) (fun h=>by cases h) (fun h=>by cases h)⟩
        · intro L V H' O' hI hLi hsee
          have h0:=hI.v2 (hsee 2 (by kernel_rfl))
          conv=>whnf
          rw[h0]
          conv=>whnf
          refine dec_intro (by omega) ?_
          conv=>whnf
          refine dec_intro (by omega) ?_
          conv=>whnf
          refine dec_intro (by omega) ?_
          conv=>whnf
          intro c hc hO
          rw[rep1]
          conv=>whnf
          exact⟨⟨_,(List.append_nil _).symm⟩,_,rfl,hI.new3 hLi hO⟩
        · intro L V H' O' hI hLi hsee
          have hl:=hsee 1 (by kernel_rfl)
          conv=>whnf
          exact⟨⟨_,(List.append_nil _).symm⟩,_,rfl,hI.step hLi (by decide) (by decide) (fun h=>by cases h) (fun h=>by cases h) (fun _=>⟨hl,rfl⟩) (fun h=>by cases h)⟩
        · intro L V H' O' hI hLi hsee
          have hl:=hsee 3 (by kernel_rfl)
          conv=>whnf
          exact⟨⟨_,(List.append_nil _).symm⟩,_,rfl,hI.step hLi (by decide) (by decide) (fun h=>by cases h) (fun h=>by cases h) (fun h=>by cases h) (fun _=>⟨hl,rfl⟩)⟩
        intro L V H' O' hI hall
        obtain rfl:=hI.hh
        have e0:=hI.v0 (hall 0 (by decide))
        have e2:=hI.v2 (hall 2 (by decide))
        obtain⟨bm,e1,hbm⟩:=hI.v1 (hall 1 (by decide))
        obtain⟨bo,e3,hbo⟩:=hI.v3 (hall 3 (by decide))
        have hmo:=hI.ap (hall 1 (by decide)) (hall 3 (by decide)) bm bo e1 e3
        have e4:=(hI.v4 (hall 4 (by decide))).2.trans e1
        have e5:=(hI.v5 (hall 5 (by decide))).2.trans e3
        clear hI hall
        conv=>whnf
        rw[e0,e1,e2,e3,e4,e5]
        clear e0 e1 e2 e3 e4 e5 V L
        conv=>whnf
        rw[← hKR]
        clear hKR KR
        conv=>whnf
        refine W_hide fun K1 hK1=>?_
        have hR0:RowsA O' bm (List.replicate a (.slice none 0 0)) (List.replicate a []) (List.replicate a none):=RowsA.start hbm
        refine W_loop (pol:=polJ) Γok (Nat × PH × PH × Mx × List Value × List (Option Nat)) (fun i=>i.1≤a∧Sub H i.2.1∧RowsA i.2.2.1 bm i.2.2.2.2.1 i.2.2.2.1 i.2.2.2.2.2∧i.2.2.2.1.length=a∧(∀ r∈i.2.2.2.1,r.length≤10*i.1)∧i.2.2.1 bo=some (.cells ⟨List.replicate b (.slice none 0 0)⟩ 31 (0,0))∧∀ q x,i.2.2.2.2.2[q]?=some x→x ≠ some bo) (fun i=>a - i.1) (fun i=>[(125,.v (.int .i64 i.1))]) (fun _=>[]) (fun i=>i.2.1) (fun i=>i.2.2.1) ⟨(0,_,O',List.replicate a [],List.replicate a (.slice none 0 0),List.replicate a none),⟨Nat.zero_le _,cs,hR0,by simp,fun r hr=>by rw[List.eq_of_mem_replicate hr];exact Nat.zero_le _,hbo,fun q x hx=>by
            rw[List.getElem?_replicate] at hx
            split at hx
            · cases hx;simp
            · cases hx⟩,rfl,rfl,?_⟩ ?_
        · conv=>whnf
          repeat (refine⟨rfl,?_⟩;conv=>whnf)
          exact trivial
        clear hR0 hbm hbo cs
        rintro ⟨i,iH,iO,rows,rvs,obs⟩ ⟨i1,is,hR,hl,hb,hbo,hne⟩
        dsimp only at i1 is hR hl hb hbo hne
        conv=>whnf
        refine if_intro (fun ic=>?_) (fun ic=>?_)
        · have ii:i < a:=by
            have:=of_decide_eq_true ic
            omega
          conv=>whnf
          refine W_hide fun K2 hK2=>?_
          refine W_loop (pol:=polJ) Γok (Nat × PH × PH × Mx × List Value × List (Option Nat)) (fun k=>k.1≤b∧Sub H k.2.1∧RowsA k.2.2.1 bm k.2.2.2.2.1 k.2.2.2.1 k.2.2.2.2.2∧k.2.2.2.1.length=a∧(∀ r∈k.2.2.2.1,r.length≤10*i+k.1)∧k.2.2.1 bo=some (.cells ⟨List.replicate b (.slice none 0 0)⟩ 31 (0,0))∧∀ q x,k.2.2.2.2.2[q]?=some x→x ≠ some bo) (fun k=>b - k.1) (fun k=>[(129,.v (.int .i64 k.1))]) (fun _=>[]) (fun k=>k.2.1) (fun k=>k.2.2.1) ⟨(0,iH,iO,rows,rvs,obs),⟨Nat.zero_le _,is,hR,hl,hb,hbo,hne⟩,rfl,rfl,?_⟩ ?_
          · conv=>whnf
            repeat (refine⟨rfl,?_⟩;conv=>whnf)
            exact trivial
          clear is hR hl hb hbo hne
          rintro ⟨k,kH,kO,rows,rvs,obs⟩ ⟨k1,ks,hR,hl,hb,hbo,hne⟩
          dsimp only at k1 ks hR hl hb hbo hne
          conv=>whnf
          refine if_intro (fun kc=>?_) (fun kc=>?_)
          · have ki:k < b:=by
              have:=of_decide_eq_true kc
              omega
            refine hR.atK kH (show i < rows.length by omega) hb fun r ob rb rc hr hob hvr hrl hrow=>?_
            have l1:=hR.l1
            have hm0:=hR.main
            have hn0:=hR.ne i ob hob
            conv=>whnf
            refine dec_intro (by omega) ?_
            conv=>whnf
            refine⟨_,hrow,?_⟩
            conv=>whnf
            intro b5 hb5 hO5
            conv=>whnf
            have s5:=sub_ins kH (.cells ⟨cellsOf ((⟨IntKind.i64.wrap ((i:Int)+(k:Int)),IntKind.i64.wrap ((k:Int) - (i:Int)),0,0⟩:P4),(i:Int))⟩ 33 (0,0)) hb5
            refine append_ap (xs:=r.map cellsOf) (y:=cellsOf ((⟨IntKind.i64.wrap ((i:Int)+(k:Int)),IntKind.i64.wrap ((k:Int) - (i:Int)),0,0⟩:P4),(i:Int))) hvr rfl rfl (cellsOf_one _) ⟨_,_,_,rfl,rfl,Rd.whole (ins_same _ _ _)⟩ (by simp;omega) fun v2 O4 bx h4 hf hk4=>?_
            refine VecA.snocK h4 fun v2b v2c h4' e=>?_
            subst e
            have hm4:O4 bm=some (.cells ⟨rvs⟩ 31 (0,0)):=hk4 _ _ hm0 hn0
            conv=>whnf
            refine dec_intro (by omega) ?_
            conv=>whnf
            refine⟨_,_,hm4,?_,?_⟩
            · show 0+i*1+1≤rvs.length
              omega
            conv=>whnf
            have hnew:=hR.app hr hob h4' hf hk4 (set_take_drop rvs i _ (by omega)) rfl
            have hbx:bx ≠ bo:=fun e=>by
              rcases hf with hf | hf
              · exact hne i _ hob (by rw[hf,e])
              · have hf:kO bx=none:=hf
                rw[e,hbo] at hf;cases hf
            refine⟨(k+1,_,_,rows.set i _,_,_),⟨by dsimp only;omega,ks.trans s5,hnew,by rw[List.length_set];exact hl,fun r' hr'=>?_,?_,fun q y hy=>?_⟩,by dsimp only;omega,?_⟩
            · rcases List.mem_or_eq_of_mem_set hr' with h' | rfl
              · have:=hb _ h'
                dsimp only
                omega
              · have hrl:r.length≤10*i+k:=hrl
                rw[List.length_append]
                show r.length+1≤10*i+(k+1)
                omega
            · refine (ins_ne _ _ fun e=>?_).trans (hk4 _ _ hbo (hne i _ hob))
              exact hmo e.symm
            · by_cases e:i=q
              · subst e
                rw[List.getElem?_set_self (List.getElem?_eq_some_iff.1 hob).1] at hy
                cases hy
                intro e2
                cases e2
                exact hbx rfl
              · rw[List.getElem?_set_ne e] at hy
                exact hne q y hy
            refine⟨rfl,rfl,?_⟩
            conv=>whnf
            repeat (refine⟨rfl,?_⟩;conv=>whnf)
            refine⟨by show En.v (.int .i64 (IntKind.i64.wrap (k+1)))=_;rw[wrap_id (by omega) (by omega)];rfl,?_⟩
            conv=>whnf
            repeat (refine⟨rfl,?_⟩;conv=>whnf)
            exact trivial
          conv=>whnf
          rw[← hK2]
          clear hK2 K2
          conv=>whnf
          refine⟨(i+1,kH,kO,rows,rvs,obs),⟨by dsimp only;omega,ks,hR,hl,fun r hr=>by have:=hb r hr;dsimp only;omega,hbo,hne⟩,by dsimp only;omega,?_⟩
          refine⟨rfl,rfl,?_⟩
          conv=>whnf
          repeat (refine⟨rfl,?_⟩;conv=>whnf)
          refine⟨by show En.v (.int .i64 (IntKind.i64.wrap (i+1)))=_;rw[wrap_id (by omega) (by omega)];rfl,?_⟩
          conv=>whnf
          repeat (refine⟨rfl,?_⟩;conv=>whnf)
          exact trivial
        clear ic
        conv=>whnf
        rw[← hK1]
        clear hK1 K1
        conv=>whnf
        refine W_pre fun hd=>?_
        refine RowsA.pubButK hd hR hbo hmo hne hl.symm fun mH oO rp hM0 hbo2=>⟨mH,oO,rp,?_⟩
        have hMok:okM rows:=⟨by omega,by omega,fun r hr=>by have:=hb r hr;omega⟩
        replace is:=is.trans rp.sub
        clear hR hb hbo hne hd rp i1
        obtain⟨mm,hmm⟩:∃ mm,mm=rows:=⟨_,rfl⟩
        rw[← hmm] at hM0 hMok
        clear hmm
        refine W_hide fun K1 hK1=>?_
        have hR0:RowsA oO bo (List.replicate b (.slice none 0 0)) (List.replicate b []) (List.replicate b none):=RowsA.start hbo2
        refine W_loop (pol:=polJ) Γok (Nat × PH × PH × Mx × List Value × List (Option Nat)) (fun i=>i.1≤b∧Sub mH i.2.1∧RowsA i.2.2.1 bo i.2.2.2.2.1 i.2.2.2.1 i.2.2.2.2.2∧i.2.2.2.1.length=b∧(∀ r∈i.2.2.2.1,r.length≤10*i.1)) (fun i=>b - i.1) (fun i=>[(152,.v (.int .i64 i.1))]) (fun _=>[]) (fun i=>i.2.1) (fun i=>i.2.2.1) ⟨(0,mH,oO,List.replicate b [],List.replicate b (.slice none 0 0),List.replicate b none),⟨Nat.zero_le _,Sub.refl _,hR0,by simp,fun r hr=>by rw[List.eq_of_mem_replicate hr];exact Nat.zero_le _⟩,rfl,rfl,?_⟩ ?_
        · conv=>whnf
          repeat (refine⟨rfl,?_⟩;conv=>whnf)
          exact trivial
        clear hR0 hbo2
        rintro ⟨i,iH,iO,rows,rvs,obs⟩ ⟨i1,ms',hR,hl,hb⟩
        dsimp only at i1 ms' hR hl hb
        conv=>whnf
        refine if_intro (fun ic=>?_) (fun ic=>?_)
        · have ii:i < b:=by
            have:=of_decide_eq_true ic
            omega
          conv=>whnf
          refine W_hide fun K2 hK2=>?_
          refine W_loop (pol:=polJ) Γok (Nat × PH × PH × Mx × List Value × List (Option Nat)) (fun k=>k.1≤c∧Sub mH k.2.1∧RowsA k.2.2.1 bo k.2.2.2.2.1 k.2.2.2.1 k.2.2.2.2.2∧k.2.2.2.1.length=b∧(∀ r∈k.2.2.2.1,r.length≤10*i+k.1)) (fun k=>c - k.1) (fun k=>[(156,.v (.int .i64 k.1))]) (fun _=>[]) (fun k=>k.2.1) (fun k=>k.2.2.1) ⟨(0,iH,iO,rows,rvs,obs),⟨Nat.zero_le _,ms',hR,hl,hb⟩,rfl,rfl,?_⟩ ?_
          · conv=>whnf
            repeat (refine⟨rfl,?_⟩;conv=>whnf)
            exact trivial
          clear ms' hR hl hb
          rintro ⟨k,kH,kO,rows,rvs,obs⟩ ⟨k1,ks,hR,hl,hb⟩
          dsimp only at k1 ks hR hl hb
          conv=>whnf
          refine if_intro (fun kc=>?_) (fun kc=>?_)
          · have ki:k < c:=by
              have:=of_decide_eq_true kc
              omega
            refine hR.atK kH (show i < rows.length by omega) hb fun r ob rb rc hr hob hvr hrl hrow=>?_
            have l1:=hR.l1
            have hm0:=hR.main
            have hn0:=hR.ne i ob hob
            conv=>whnf
            refine dec_intro (by omega) ?_
            conv=>whnf
            refine⟨_,hrow,?_⟩
            conv=>whnf
            intro b5 hb5 hO5
            conv=>whnf
            have s5:=sub_ins kH (.cells ⟨cellsOf ((⟨IntKind.i64.wrap ((i:Int) - (k:Int)),0,0,2⟩:P4),(k:Int))⟩ 33 (0,0)) hb5
            refine append_ap (xs:=r.map cellsOf) (y:=cellsOf ((⟨IntKind.i64.wrap ((i:Int) - (k:Int)),0,0,2⟩:P4),(k:Int))) hvr rfl rfl (cellsOf_one _) ⟨_,_,_,rfl,rfl,Rd.whole (ins_same _ _ _)⟩ (by simp;omega) fun v2 O4 bx h4 hf hk4=>?_
            refine VecA.snocK h4 fun v2b v2c h4' e=>?_
            subst e
            have hm4:O4 bo=some (.cells ⟨rvs⟩ 31 (0,0)):=hk4 _ _ hm0 hn0
            conv=>whnf
            refine dec_intro (by omega) ?_
            conv=>whnf
            refine⟨_,_,hm4,?_,?_⟩
            · show 0+i*1+1≤rvs.length
              omega
            conv=>whnf
            have hnew:=hR.app hr hob h4' hf hk4 (set_take_drop rvs i _ (by omega)) rfl
            refine⟨(k+1,_,_,rows.set i _,_,_),⟨by dsimp only;omega,ks.trans s5,hnew,by rw[List.length_set];exact hl,fun r' hr'=>?_⟩,by dsimp only;omega,?_⟩
            · rcases List.mem_or_eq_of_mem_set hr' with h' | rfl
              · have:=hb _ h'
                dsimp only
                omega
              · have hrl:r.length≤10*i+k:=hrl
                rw[List.length_append]
                show r.length+1≤10*i+(k+1)
                omega
            refine⟨rfl,rfl,?_⟩
            conv=>whnf
            repeat (refine⟨rfl,?_⟩;conv=>whnf)
            refine⟨by show En.v (.int .i64 (IntKind.i64.wrap (k+1)))=_;rw[wrap_id (by omega) (by omega)];rfl,?_⟩
            conv=>whnf
            repeat (refine⟨rfl,?_⟩;conv=>whnf)
            exact trivial
          conv=>whnf
          rw[← hK2]
          clear hK2 K2
          conv=>whnf
          refine⟨(i+1,kH,kO,rows,rvs,obs),⟨by dsimp only;omega,ks,hR,hl,fun r hr=>by have:=hb r hr;dsimp only;omega⟩,by dsimp only;omega,?_⟩
          refine⟨rfl,rfl,?_⟩
          conv=>whnf
          repeat (refine⟨rfl,?_⟩;conv=>whnf)
          refine⟨by show En.v (.int .i64 (IntKind.i64.wrap (i+1)))=_;rw[wrap_id (by omega) (by omega)];rfl,?_⟩
          conv=>whnf
          repeat (refine⟨rfl,?_⟩;conv=>whnf)
          exact trivial
        clear ic
        conv=>whnf
        rw[← hK1]
        clear hK1 K1
        conv=>whnf
        refine Cl.pubAll (jAsk mm mm hMok.1 hMok.2.1 hMok.2.1 hMok.2.2 _ _ _ hM0 hM0).ent fun hd=>?_
        have hO1:=hR.mat hd hl.symm
        have hOok:okM rows:=⟨by omega,by omega,fun r hr=>by have:=hb r hr;omega⟩
        have us:=un_left iH iO
        replace hM0:=(hM0.up ms').up us
        replace is:=is.trans (ms'.trans us)
        clear hR hb hd ms' us
        refine (jAsk mm rows hMok.1 hMok.2.1 hOok.2.1 hMok.2.2 _ _ _ hM0 hO1).val fun H3 s3=>?_
        replace hM0:=hM0.up s3
        replace hO1:=hO1.up s3
        replace is:=is.trans s3
        conv=>whnf
        refine (jAsk rows mm hOok.1 hOok.2.1 hMok.2.1 hOok.2.2 _ _ _ hO1 hM0).val fun H4 s4=>?_
        replace hM0:=hM0.up s4
        replace is:=is.trans s4
        conv=>whnf
        refine (jAsk mm mm hMok.1 hMok.2.1 hMok.2.1 hMok.2.2 _ _ _ hM0 hM0).val fun H5 s5=>?_
        replace is:=is.trans s5
        conv=>whnf
        refine⟨(c+1,H5),⟨by dsimp only;omega,is⟩,by dsimp only;omega,?_⟩
        refine⟨rfl,rfl,?_⟩
        conv=>whnf
        repeat (refine⟨rfl,?_⟩;conv=>whnf)
        refine⟨by show En.v (.int .i64 (IntKind.i64.wrap (c+1)))=_;rw[wrap_id (by omega) (by omega)];rfl,?_⟩
        conv=>whnf
        repeat (refine⟨rfl,?_⟩;conv=>whnf)
        exact trivial
      conv=>whnf
      rw[← hKc]
      clear hKc Kc
      conv=>whnf
      refine⟨(b+1,cH),⟨by dsimp only;omega,cs⟩,by dsimp only;omega,?_⟩
      refine⟨rfl,rfl,?_⟩
      conv=>whnf
      repeat (refine⟨rfl,?_⟩;conv=>whnf)
      refine⟨by show En.v (.int .i64 (IntKind.i64.wrap (b+1)))=_;rw[wrap_id (by omega) (by omega)];rfl,?_⟩
      conv=>whnf
      repeat (refine⟨rfl,?_⟩;conv=>whnf)
      exact trivial
    conv=>whnf
    rw[← hKb]
    clear hKb Kb
    conv=>whnf
    refine⟨(a+1,bH),⟨by dsimp only;omega,bs⟩,by dsimp only;omega,?_⟩
    refine⟨rfl,rfl,?_⟩
    conv=>whnf
    repeat (refine⟨rfl,?_⟩;conv=>whnf)
    refine⟨by show En.v (.int .i64 (IntKind.i64.wrap (a+1)))=_;rw[wrap_id (by omega) (by omega)];rfl,?_⟩
    conv=>whnf
    repeat (refine⟨rfl,?_⟩;conv=>whnf)
    exact trivial
  clear a1 ac
  conv=>whnf
  rw[← hKa]
  clear hKa Ka
  conv=>whnf
  intro bn hbn _
  conv=>whnf
  have sn:=sub_ins aH (.cells ⟨cellsN [((⟨1073741824,0,0,0⟩:P4),(0:Int)),((⟨1073741824,1,0,0⟩:P4),(0:Int)),((⟨-1073741824,0,0,0⟩:P4),(60:Int)),((⟨1073741825,0,0,0⟩:P4),(0:Int)),((⟨1,0,0,0⟩:P4),(61:Int)),((⟨1,0,0,0⟩:P4),(-1:Int)),((⟨1,0,0,0⟩:P4),(60:Int)),((⟨0,32768,0,0⟩:P4),(3:Int))]⟩ 33 (0,0)) hbn
  replace as_:=as_.trans sn
  refine W_hide fun Kv hKv=>?_
  refine W_loop (pol:=polJ) Γok (Nat × PH) (fun i=>i.1≤8∧Sub H i.2) (fun i=>8 - i.1) (fun i=>[(201,.v (.int .i64 i.1))]) (fun _=>[]) (fun i=>i.2) (fun _=>emp) ⟨(0,_),⟨Nat.zero_le _,as_⟩,rfl,rfl,?_⟩ ?_
  · conv=>whnf
    repeat (refine⟨rfl,?_⟩;conv=>whnf)
    exact trivial
  clear as_ sn
  rintro ⟨i,iH⟩ ⟨i1,is⟩
  dsimp only at i1 is
  conv=>whnf
  refine if_intro (fun ic=>?_) (fun ic=>?_)
  · have ii:i < 8:=by
      have:=of_decide_eq_true ic
      omega
    conv=>whnf
    refine dec_intro (by dsimp only;omega) ?_
    conv=>whnf
    refine at_nums (L:=[((⟨1073741824,0,0,0⟩:P4),(0:Int)),((⟨1073741824,1,0,0⟩:P4),(0:Int)),((⟨-1073741824,0,0,0⟩:P4),(60:Int)),((⟨1073741825,0,0,0⟩:P4),(0:Int)),((⟨1,0,0,0⟩:P4),(61:Int)),((⟨1,0,0,0⟩:P4),(-1:Int)),((⟨1,0,0,0⟩:P4),(60:Int)),((⟨0,32768,0,0⟩:P4),(3:Int))]) (i:=i) ii fun x=>?_
    conv=>whnf
    intro bx
    conv=>whnf
    refine W_hide fun Kw hKw=>?_
    refine W_loop (pol:=polJ) Γok (Nat × PH) (fun q=>q.1≤4∧Sub H q.2) (fun q=>4 - q.1) (fun q=>[(205,.v (.int .i64 q.1))]) (fun _=>[]) (fun q=>q.2) (fun _=>emp) ⟨(0,iH),⟨Nat.zero_le _,is⟩,rfl,rfl,?_⟩ ?_
    · conv=>whnf
      repeat (refine⟨rfl,?_⟩;conv=>whnf)
      exact trivial
    clear is
    rintro ⟨q,qH⟩ ⟨q1,qs⟩
    dsimp only at q1 qs
    conv=>whnf
    refine if_intro (fun qc=>?_) (fun qc=>?_)
    · have qi:q < 4:=by
        have:=of_decide_eq_true qc
        omega
      conv=>whnf
      intro b1 hb1 _
      conv=>whnf
      have s1:=sub_ins qH (.cells ⟨[.int .i64 1,.int .i64 2]⟩ 3 (0,0)) hb1
      have f1:IntsH (PH.ins qH b1 (.cells ⟨[.int .i64 1,.int .i64 2]⟩ 3 (0,0))) (.slice (some ⟨b1,0,none⟩) 2 2) [1,2]:=ints_new qH b1 [1,2]
      generalize hH1:PH.ins qH b1 (.cells ⟨[.int .i64 1,.int .i64 2]⟩ 3 (0,0))=qH1 at *
      intro b2 hb2 _
      conv=>whnf
      have s2:=sub_ins qH1 (.cells ⟨[.int .i64 0,.int .i64 1]⟩ 3 (0,0)) hb2
      have f2:IntsH (PH.ins qH1 b2 (.cells ⟨[.int .i64 0,.int .i64 1]⟩ 3 (0,0))) (.slice (some ⟨b2,0,none⟩) 2 2) [0,1]:=ints_new qH1 b2 [0,1]
      generalize hH2:PH.ins qH1 b2 (.cells ⟨[.int .i64 0,.int .i64 1]⟩ 3 (0,0))=qH2 at *
      intro b3 hb3 _
      conv=>whnf
      have s3:=sub_ins qH2 (.cells ⟨[.slice (some ⟨b1,0,none⟩) 2 2,.slice (some ⟨b2,0,none⟩) 2 2]⟩ 28 (0,0)) hb3
      replace qs:=qs.trans (s1.trans (s2.trans s3))
      refine (jInts [[1,2],[0,1]] (by simp) (by simp) _ _ (two_ints (f1.up (s2.trans s3)) (f2.up s3) (ins_same _ _ _))).mono fun r H4 O4 s4 hr=>?_
      refine Exists.elim hr fun us h12=>?_
      have ho:=h12.1
      have hrw:=h12.2
      refine OwnS.slK ho fun rb rn rc e=>?_
      subst e
      replace qs:=qs.trans s4
      clear f1 f2 s1 s2 s3 s4 hb1 hb2 hb3
      conv=>whnf
      intro b5 hb5 _
      conv=>whnf
      have s5:=sub_ins H4 (.cells ⟨[.int .i64 1,.int .i64 1]⟩ 3 (0,0)) hb5
      have f5:IntsH (PH.ins H4 b5 (.cells ⟨[.int .i64 1,.int .i64 1]⟩ 3 (0,0))) (.slice (some ⟨b5,0,none⟩) 2 2) [1,1]:=ints_new H4 b5 [1,1]
      generalize hH5:PH.ins H4 b5 (.cells ⟨[.int .i64 1,.int .i64 1]⟩ 3 (0,0))=H5 at *
      intro b6 hb6 _
      conv=>whnf
      have s6:=sub_ins H5 (.cells ⟨[.int .i64 (-1),.int .i64 1]⟩ 3 (0,0)) hb6
      have f6:IntsH (PH.ins H5 b6 (.cells ⟨[.int .i64 (-1),.int .i64 1]⟩ 3 (0,0))) (.slice (some ⟨b6,0,none⟩) 2 2) [-1,1]:=ints_new H5 b6 [-1,1]
      generalize hH6:PH.ins H5 b6 (.cells ⟨[.int .i64 (-1),.int .i64 1]⟩ 3 (0,0))=H6 at *
      intro b7 hb7 _
      conv=>whnf
      have s7:=sub_ins H6 (.cells ⟨[.slice (some ⟨b5,0,none⟩) 2 2,.slice (some ⟨b6,0,none⟩) 2 2]⟩ 28 (0,0)) hb7
      replace qs:=qs.trans (s5.trans (s6.trans s7))
      refine (c64' [[1,1],[-1,1]] (by simp) (by simp) _ _ (two_ints (f5.up (s6.trans s7)) (f6.up s7) (ins_same _ _ _))).use fun u H8 s8 hu=>?_
      refine Exists.elim hu fun _ hu=>?_
      refine MatH.slK hu fun ub uc e=>?_
      subst e
      replace qs:=qs.trans s8
      clear f5 f6 s5 s6 s7 s8 hb5 hb6 hb7
      conv=>whnf
      have hp:q / 2 < m12.length:=by show q / 2 < 2;omega
      have hq:q % 2 < m12[q / 2].length:=by rw[m12_row _ (by omega)];omega
      refine setNK (m:=m12) ho hrw hp hq x fun ab bb bc cs e1 e2 hrd hbb hlen ho' hr'=>?_
      subst e1 e2
      refine W_hide fun Kd hKd=>?_
      refine W_draw (pol:=polJ) Γok mixes [(0,.pendO),(1,.pendO),(2,.pendO),(3,.pendO),(4,.pendO),(5,.pendO),(6,.pendO),(7,.pendO),(8,.pendO),(9,.lock)] 337 (by kernel_rfl) rfl ?_
      conv=>whnf
      rw[(half4 q qi).1]
      refine dec_intro (by omega) ?_
      conv=>whnf
      refine⟨_,hrd _,?_⟩
      conv=>whnf
      rw[(half4 q qi).2]
      refine dec_intro (by omega) ?_
      conv=>whnf
      refine⟨_,_,hbb,hlen,?_⟩
      conv=>whnf
      rw[← hKd]
      clear hKd Kd
      conv=>whnf
      refine W_pubRow ho' hr' fun mH ms' hm=>?_
      have okx:=ok12 hp (q:=q % 2) x
      replace hu:=hu.up ms'
      replace qs:=qs.trans ms'
      clear ho' hr' hbb hlen hrd hrw ho h12
      obtain⟨mm,hmm⟩:∃ mm,mm=m12.set (q / 2) (m12[q / 2].set (q % 2) x):=⟨_,rfl⟩
      have hl2:mm.length=2:=by rw[hmm,List.length_set];rfl
      rw[← hmm] at hm okx
      clear hmm
      refine W_hide fun Kd hKd=>?_
      refine W_draw (pol:=polJ) Γok mixes [(0,.pendO),(1,.pendO),(2,.lock),(3,.pendO),(4,.pendO),(5,.pendO),(6,.pendO),(7,.lock),(8,.pendO),(9,.pendO),(10,.pendO),(11,.pendO),(12,.pendO),(13,.lock),(14,.pendO),(15,.pendO),(16,.pendO),(17,.pendO),(18,.pendO),(19,.pendO),(20,.lock),(21,.pendO),(22,.pendO),(23,.pendO),(24,.pendO),(25,.pendO),(26,.pendO),(27,.pendO),(28,.pendO),(29,.pendO),(30,.pendO),(31,.lock),(32,.pendO),(33,.pendO)] 337 (by kernel_rfl) rfl ?_
      conv=>whnf
      refine (jAsk mm m11 okx.1 okx.2.1 ok11.2.1 okx.2.2 _ _ _ hm hu).val fun G1 g1=>?_
      replace hm:=hm.up g1
      replace hu:=hu.up g1
      conv=>whnf
      refine (jAsk m11 mm ok11.1 ok11.2.1 okx.2.1 ok11.2.2 _ _ _ hu hm).val fun G2 g2=>?_
      replace hm:=hm.up g2
      replace hu:=hu.up g2
      conv=>whnf
      refine (jAsk mm mm okx.1 okx.2.1 okx.2.1 okx.2.2 _ _ _ hm hm).val fun G3 g3=>?_
      replace hm:=hm.up g3
      replace hu:=hu.up g3
      conv=>whnf
      refine (c6 m11 mm x (by have:=ok11.2.1;omega) (by omega) _ _ _ hu hm).val fun G4 g4=>?_
      replace hm:=hm.up g4
      replace hu:=hu.up g4
      conv=>whnf
      refine NumH.rowK hm (i:=0) (by omega) fun ab off rb rc e h1 hn1=>?_
      cases e
      refine NumH.rowK hm (i:=1) (by omega) fun ab2 off2 rb2 rc2 e h2 hn2=>?_
      cases e
      refine⟨_,h1 _ _ (Sub.refl _),?_⟩
      conv=>whnf
      refine⟨_,h2 _ _ (Sub.refl _),?_⟩
      conv=>whnf
      refine (c7 Apply_eq Inner_eq m11 mm[0] mm[1] (by have:=ok11.2.1;omega) (by have:=okx.2.2 _ (List.getElem_mem (show 0 < mm.length by omega));omega) (by have:=okx.2.2 _ (List.getElem_mem (show 1 < mm.length by omega));omega) _ _ _ _ hu hn1 hn2).val fun G5 g5=>?_
      conv=>whnf
      rw[← hKd]
      clear hKd Kd
      conv=>whnf
      refine⟨(q+1,G5),⟨qi,qs.trans (g1.trans (g2.trans (g3.trans (g4.trans g5))))⟩,by dsimp only;omega,?_⟩
      refine⟨rfl,rfl,?_⟩
      conv=>whnf
      repeat (refine⟨rfl,?_⟩;conv=>whnf)
      refine⟨by show En.v (.int .i64 (IntKind.i64.wrap (q+1)))=_;rw[wrap_id (by omega) (by omega)];rfl,?_⟩
      conv=>whnf
      repeat (refine⟨rfl,?_⟩;conv=>whnf)
      exact trivial
    conv=>whnf
    rw[← hKw]
    clear hKw Kw
    conv=>whnf
    refine⟨(i+1,qH),⟨ii,qs⟩,by dsimp only;omega,?_⟩
    refine⟨rfl,rfl,?_⟩
    conv=>whnf
    repeat (refine⟨rfl,?_⟩;conv=>whnf)
    refine⟨by show En.v (.int .i64 (IntKind.i64.wrap (i+1)))=_;rw[wrap_id (by omega) (by omega)];rfl,?_⟩
    conv=>whnf
    repeat (refine⟨rfl,?_⟩;conv=>whnf)
    exact trivial
  clear i1 ic
  conv=>whnf
  rw[← hKv]
  clear hKv Kv
  conv=>whnf
  refine W_hide fun Kl hKl=>?_
  refine W_loop (pol:=polJ) Γok (Nat × PH) (fun k=>(62≤k.1∧k.1≤67)∧Sub H k.2) (fun k=>67 - k.1) (fun k=>[(27,.v (.int .i64 k.1))]) (fun _=>[]) (fun k=>k.2) (fun _=>emp) ⟨(62,iH),⟨by dsimp only;omega,is⟩,rfl,rfl,?_⟩ ?_
  · conv=>whnf
    repeat (refine⟨rfl,?_⟩;conv=>whnf)
    exact trivial
  clear is
  rintro ⟨k,kH⟩ ⟨k1,ks⟩
  dsimp only at k1 ks
  conv=>whnf
  refine if_intro (fun kc=>?_) (fun kc=>?_)
  · have ki:k < 67:=by
      have:=of_decide_eq_true kc
      omega
    conv=>whnf
    refine dec_intro (by dsimp only;omega) ?_
    conv=>whnf
    refine dec_intro (by dsimp only;omega) ?_
    conv=>whnf
    refine dec_intro (by dsimp only;omega) ?_
    conv=>whnf
    intro br hbr hOr
    conv=>whnf
    rw[zrow_cells]
    refine W_pubB (ins_same emp br _) fun rH rs hrow=>?_
    have hz:=zrow_num hrow
    replace ks:=ks.trans rs
    clear hrow rs hbr hOr
    refine W_hide fun Km hKm=>?_
    refine W_freeL (pol:=polJ) Γok mixes 337 (by kernel_rfl) rfl (LK rH br k) ⟨Sub.refl _,fun h=>(by cases h),fun h=>(by cases h),fun h=>(by cases h),fun h=>(by cases h),fun h=>(by cases h),fun h=>(by cases h)⟩ ⟨?_,?_,?_,?_,?_,?_,trivial⟩ ?_
    · intro L V H' O' hI hLi hsee
      conv=>whnf
      exact⟨⟨_,(List.append_nil _).symm⟩,_,rfl,hI.step hLi (Sub.refl _) (Sub.refl _) (fun _=>rfl) (fun h=>by cases h) (fun h=>by cases h) (fun h=>by cases h) (fun h=>by cases h) (fun h=>by cases h)⟩
    · intro L V H' O' hI hLi hsee
      have h0:=hI.v0 (hsee 0 (by kernel_rfl))
      conv=>whnf
      rw[h0]
      conv=>whnf
      intro c hc hO
      conv=>whnf
      exact⟨⟨_,rfl⟩,_,rfl,hI.step hLi (sub_ins _ _ hc) (Sub.refl _) (fun h=>by cases h) (fun _=>⟨c,rfl,ins_same _ _ _⟩) (fun h=>by cases h) (fun h=>by cases h) (fun h=>by cases h) (fun h=>by cases h)⟩
    · intro L V H' O' hI hLi hsee
      conv=>whnf
      exact⟨⟨_,(List.append_nil _).symm⟩,_,rfl,hI.step hLi (Sub.refl _) (Sub.refl _) (fun h=>by cases h) (fun h=>by cases h) (fun _=>rfl) (fun h=>by cases h) (fun h=>by cases h) (fun h=>by cases h)⟩
    · intro L V H' O' hI hLi hsee
      have h0:=hI.v2 (hsee 2 (by kernel_rfl))
      conv=>whnf
      rw[h0]
      conv=>whnf
      refine dec_intro (by omega) ?_
      conv=>whnf
      refine dec_intro (by omega) ?_
      conv=>whnf
      refine dec_intro (by omega) ?_
      conv=>whnf
      intro c hc hO
      rw[rep1]
      conv=>whnf
      exact⟨⟨_,(List.append_nil _).symm⟩,_,rfl,hI.step hLi (Sub.refl _) (sub_ins _ _ hO) (fun h=>by cases h) (fun h=>by cases h) (fun h=>by cases h) (fun _=>⟨c,rfl,ins_same _ _ _⟩) (fun h=>by cases h) (fun h=>by cases h)⟩
    · intro L V H' O' hI hLi hsee
      have hl:=hsee 1 (by kernel_rfl)
      conv=>whnf
      exact⟨⟨_,(List.append_nil _).symm⟩,_,rfl,hI.step hLi (Sub.refl _) (Sub.refl _) (fun h=>by cases h) (fun h=>by cases h) (fun h=>by cases h) (fun h=>by cases h) (fun _=>⟨hl,rfl⟩) (fun h=>by cases h)⟩
    · intro L V H' O' hI hLi hsee
      have hl:=hsee 3 (by kernel_rfl)
      conv=>whnf
      exact⟨⟨_,(List.append_nil _).symm⟩,_,rfl,hI.step hLi (Sub.refl _) (Sub.refl _) (fun h=>by cases h) (fun h=>by cases h) (fun h=>by cases h) (fun h=>by cases h) (fun h=>by cases h) (fun _=>⟨hl,rfl⟩)⟩
    intro L V H' O' hI hall
    have hs:=hI.sub
    have e0:=hI.v0 (hall 0 (by decide))
    have e2:=hI.v2 (hall 2 (by decide))
    obtain⟨cl,e1,hcl⟩:=hI.v1 (hall 1 (by decide))
    obtain⟨ch,e3,hch⟩:=hI.v3 (hall 3 (by decide))
    have e4:=(hI.v4 (hall 4 (by decide))).2.trans e1
    have e5:=(hI.v5 (hall 5 (by decide))).2.trans e3
    clear hI hall
    replace hz:=hz.up hs
    replace ks:=ks.trans hs
    have hlong:=one_rowJ hcl hz
    have hF:=Fill.start (H:=H') hch
    clear hs hcl hch
    conv=>whnf
    rw[e0,e1,e2,e3,e4,e5]
    clear e0 e1 e2 e3 e4 e5 V L
    conv=>whnf
    rw[← hKm]
    clear hKm Km
    conv=>whnf
    refine W_hide fun Kn hKn=>?_
    refine W_loop (pol:=polJ) Γok (Nat × PH × PH × List Value × Mx) (fun i=>i.1≤k∧Sub H' i.2.1∧Fill i.2.1 i.2.2.1 ch i.2.2.2.1 i.2.2.2.2 k) (fun i=>k - i.1) (fun i=>[(273,.v (.int .i64 i.1))]) (fun _=>[]) (fun i=>i.2.1) (fun i=>i.2.2.1) ⟨(0,H',O',_,_),⟨Nat.zero_le _,Sub.refl _,hF⟩,rfl,rfl,?_⟩ ?_
    · conv=>whnf
      repeat (refine⟨rfl,?_⟩;conv=>whnf)
      exact trivial
    clear hF
    rintro ⟨i,iH,iO,us,rows⟩ ⟨i1,is,hF⟩
    dsimp only at i1 is hF
    conv=>whnf
    refine if_intro (fun ic=>?_) (fun ic=>?_)
    · have ii:i < k:=by
        have:=of_decide_eq_true ic
        omega
      conv=>whnf
      refine (c65 i _).val fun H3 s3=>?_
      conv=>whnf
      intro b5 hb5 hO5
      conv=>whnf
      have s5:=sub_ins H3 (.cells ⟨cellsOf ((⟨(i:Int),0,0,0⟩:P4),(0:Int))⟩ 33 (0,0)) hb5
      have hn5:=one_num (x:=((⟨(i:Int),0,0,0⟩:P4),(0:Int))) (ins_same H3 b5 (.cells ⟨cellsOf ((⟨(i:Int),0,0,0⟩:P4),(0:Int))⟩ 33 (0,0)))
      have hl1:=hF.l1
      refine dec_intro (by omega) ?_
      conv=>whnf
      refine⟨_,_,hF.main,?_,?_⟩
      · show 0+i*1+1≤us.length
        omega
      conv=>whnf
      have hnew:=(hF.up (s3.trans s5)).set ii hn5
      rw[← set_take_drop us i _ (by omega)] at hnew
      refine⟨(i+1,_,_,_,_),⟨ii,is.trans (s3.trans s5),hnew⟩,by dsimp only;omega,?_⟩
      refine⟨rfl,rfl,?_⟩
      conv=>whnf
      repeat (refine⟨rfl,?_⟩;conv=>whnf)
      refine⟨by show En.v (.int .i64 (IntKind.i64.wrap (i+1)))=_;rw[wrap_id (by omega) (by omega)];rfl,?_⟩
      conv=>whnf
      repeat (refine⟨rfl,?_⟩;conv=>whnf)
      exact trivial
    clear i1 ic
    conv=>whnf
    rw[← hKn]
    clear hKn Kn
    conv=>whnf
    replace hlong:=hlong.up is
    replace hz:=hz.up is
    replace ks:=ks.trans is
    refine (c4 c14 [zrow k] (by simp) _ _ hlong).val fun H6 s6=>?_
    replace hz:=hz.up s6
    replace ks:=ks.trans s6
    conv=>whnf
    refine Cl.pubAll (c4 c14 [zrow k] (by simp) _ _ hlong).ent fun hd=>?_
    have hm:=(hF.up s6).mat hd
    have u7:=un_left H6 iO
    have hl2:=hF.l2
    replace hz:=hz.up u7
    replace ks:=ks.trans u7
    clear hF hd u7
    refine (c4 c14 rows (by omega) _ _ hm).val fun H7 s7=>?_
    replace hz:=hz.up s7
    replace ks:=ks.trans s7
    conv=>whnf
    refine (c65 1 _).val fun H8 s8=>?_
    replace hz:=hz.up s8
    replace ks:=ks.trans s8
    conv=>whnf
    intro b9 hb9 _
    conv=>whnf
    have s9:=sub_ins H8 (.cells ⟨cellsOf ((⟨1,0,0,0⟩:P4),(0:Int))⟩ 33 (0,0)) hb9
    have hn9:=one_num (x:=((⟨1,0,0,0⟩:P4),(0:Int))) (ins_same H8 b9 (.cells ⟨cellsOf ((⟨1,0,0,0⟩:P4),(0:Int))⟩ 33 (0,0)))
    intro b10 hb10 _
    conv=>whnf
    have s10:=sub_ins (PH.ins H8 b9 (.cells ⟨cellsOf ((⟨1,0,0,0⟩:P4),(0:Int))⟩ 33 (0,0))) (.cells ⟨[.slice (some ⟨b9,0,none⟩) 1 1]⟩ 31 (0,0)) hb10
    have hm10:=one_rowJ (ins_same (PH.ins H8 b9 (.cells ⟨cellsOf ((⟨1,0,0,0⟩:P4),(0:Int))⟩ 33 (0,0))) b10 (.cells ⟨[.slice (some ⟨b9,0,none⟩) 1 1]⟩ 31 (0,0))) (hn9.up s10)
    have hzl:(zrow k).length < 9223372036854775808:=by simp[zrow];omega
    refine (c7 Apply_eq Inner_eq _ _ _ (by decide) hzl hzl _ _ _ _ hm10 (hz.up (s9.trans s10)) (hz.up (s9.trans s10))).val fun H11 s11=>?_
    conv=>whnf
    refine⟨(k+1,H11),⟨by dsimp only;omega,ks.trans (s9.trans (s10.trans s11))⟩,by dsimp only;omega,?_⟩
    refine⟨rfl,rfl,?_⟩
    conv=>whnf
    repeat (refine⟨rfl,?_⟩;conv=>whnf)
    refine⟨by show En.v (.int .i64 (IntKind.i64.wrap (k+1)))=_;rw[wrap_id (by omega) (by omega)];rfl,?_⟩
    conv=>whnf
    repeat (refine⟨rfl,?_⟩;conv=>whnf)
    exact trivial
  clear k1 kc
  conv=>whnf
  rw[← hKl]
  clear hKl Kl
  conv=>whnf
  refine W_hide fun KR hKR=>?_
  refine W_freeGL (pol:=polJ) Γok mixes 337 (by kernel_rfl) rfl (FI (un kH emp) (AsS sp87)) ⟨Sub.refl _,fun i h=>(by cases h)⟩ (guards_met (by kernel_rfl)) ⟨?_,?_,?_,?_,?_,?_,?_,?_,?_,?_,?_,?_,?_,?_,?_,?_,?_,?_,?_,?_,?_,?_,?_,?_,?_,?_,?_,?_,?_,?_,?_,?_,?_,?_,?_,?_,?_,?_,trivial⟩ ?_
  · intro L V H' O' hI hLi hsee
    have get:=fun (j:Nat) (h:seesB _ _ j=true)=>hI.sp j (hsee j h)
    conv=>whnf
    refine Cl.pubAll ((c4 c14 [] (by decide) _ _ (nil_mat (un H' O'))).ent) fun hd=>?_
    refine (c4 c14 [] (by decide) _ _ (nil_mat (un H' O'))).val fun H3 s3=>?_
    conv=>whnf
    exact⟨⟨_,(List.append_nil _).symm⟩,_,rfl,FI.step (S:=AsS sp87) (i:=0) (fun h s=>AsS.up h s) hI (s3.trans (un_emp H3)) (rfl)⟩
  · intro L V H' O' hI hLi hsee
    have get:=fun (j:Nat) (h:seesB _ _ j=true)=>hI.sp j (hsee j h)
    have h0:V 0=.bool true:=get 0 (by kernel_rfl)
    conv=>whnf
    exact⟨⟨_,(List.append_nil _).symm⟩,_,rfl,FI.step (S:=AsS sp87) (i:=1) (fun h s=>AsS.up h s) hI (Sub.refl _) (h0)⟩
  · intro L V H' O' hI hLi hsee
    have get:=fun (j:Nat) (h:seesB _ _ j=true)=>hI.sp j (hsee j h)
    conv=>whnf
    intro b hb hO
    conv=>whnf
    exact⟨⟨_,rfl⟩,_,rfl,FI.step (S:=AsS sp87) (i:=2) (fun h s=>AsS.up h s) hI (un_insH hb hO) (empty_num _ b)⟩
  · intro L V H' O' hI hLi hsee
    have get:=fun (j:Nat) (h:seesB _ _ j=true)=>hI.sp j (hsee j h)
    have h2:NumH (un H' O') (V 2) []:=get 2 (by kernel_rfl)
    obtain⟨_,_,e2⟩:=MatN.slL h2
    conv=>whnf
    rw[e2] at h2 ⊢
    conv=>whnf
    intro b hb hO
    conv=>whnf
    exact⟨⟨_,rfl⟩,_,rfl,FI.step (S:=AsS sp87) (i:=3) (fun h s=>AsS.up h s) hI (un_insH hb hO) (row1 un_atH (NumH.up h2 (un_insH hb hO)))⟩
  · intro L V H' O' hI hLi hsee
    have get:=fun (j:Nat) (h:seesB _ _ j=true)=>hI.sp j (hsee j h)
    have h3:MatH (un H' O') (V 3) [[]]:=get 3 (by kernel_rfl)
    conv=>whnf
    refine Cl.pubAll ((c4 c14 [[]] (by decide) _ _ h3).ent) fun hd=>?_
    refine (c4 c14 [[]] (by decide) _ _ h3).val fun H3 s3=>?_
    conv=>whnf
    exact⟨⟨_,(List.append_nil _).symm⟩,_,rfl,FI.step (S:=AsS sp87) (i:=4) (fun h s=>AsS.up h s) hI (s3.trans (un_emp H3)) (rfl)⟩
  · intro L V H' O' hI hLi hsee
    have get:=fun (j:Nat) (h:seesB _ _ j=true)=>hI.sp j (hsee j h)
    have h1:V 1=.bool true:=get 1 (by kernel_rfl)
    have h4:V 4=.bool true:=get 4 (by kernel_rfl)
    conv=>whnf
    rw[h1]
    conv=>whnf
    exact⟨⟨_,(List.append_nil _).symm⟩,_,rfl,FI.step (S:=AsS sp87) (i:=5) (fun h s=>AsS.up h s) hI (Sub.refl _) (h4)⟩
  · intro L V H' O' hI hLi hsee
    have get:=fun (j:Nat) (h:seesB _ _ j=true)=>hI.sp j (hsee j h)
    have h5:V 5=.bool true:=get 5 (by kernel_rfl)
    conv=>whnf
    exact⟨⟨_,(List.append_nil _).symm⟩,_,rfl,FI.step (S:=AsS sp87) (i:=6) (fun h s=>AsS.up h s) hI (Sub.refl _) (h5)⟩
  · intro L V H' O' hI hLi hsee
    have get:=fun (j:Nat) (h:seesB _ _ j=true)=>hI.sp j (hsee j h)
    conv=>whnf
    refine Cl.pubAll (c65 1 emp).ent fun hd=>?_
    refine (c65 1 _).val fun H3 s3=>?_
    conv=>whnf
    exact⟨⟨_,(List.append_nil _).symm⟩,_,rfl,FI.step (S:=AsS sp87) (i:=7) (fun h s=>AsS.up h s) hI (s3.trans (un_emp H3)) (rfl)⟩
  · intro L V H' O' hI hLi hsee
    have get:=fun (j:Nat) (h:seesB _ _ j=true)=>hI.sp j (hsee j h)
    have h7:V 7=.agg ⟨[.int .i64 1,.int .i64 0,.int .i64 0,.int .i64 0,.int .i64 0]⟩:=get 7 (by kernel_rfl)
    conv=>whnf
    rw[h7]
    conv=>whnf
    intro b hb hO
    conv=>whnf
    exact⟨⟨_,rfl⟩,_,rfl,FI.step (S:=AsS sp87) (i:=8) (fun h s=>AsS.up h s) hI (un_insH hb hO) (one_num (x:=((⟨1,0,0,0⟩:P4),(0:Int))) un_atH)⟩
  · intro L V H' O' hI hLi hsee
    have get:=fun (j:Nat) (h:seesB _ _ j=true)=>hI.sp j (hsee j h)
    conv=>whnf
    intro b hb hO
    conv=>whnf
    exact⟨⟨_,rfl⟩,_,rfl,FI.step (S:=AsS sp87) (i:=9) (fun h s=>AsS.up h s) hI (un_insH hb hO) (empty_num _ b)⟩
  · intro L V H' O' hI hLi hsee
    have get:=fun (j:Nat) (h:seesB _ _ j=true)=>hI.sp j (hsee j h)
    have h8:NumH (un H' O') (V 8) [((⟨1,0,0,0⟩:P4),(0:Int))]:=get 8 (by kernel_rfl)
    have h9:NumH (un H' O') (V 9) []:=get 9 (by kernel_rfl)
    obtain⟨_,_,e8⟩:=MatN.slL h8
    obtain⟨_,_,e9⟩:=MatN.slL h9
    conv=>whnf
    rw[e8] at h8 ⊢
    conv=>whnf
    rw[e9] at h9 ⊢
    conv=>whnf
    intro b hb hO
    conv=>whnf
    exact⟨⟨_,rfl⟩,_,rfl,FI.step (S:=AsS sp87) (i:=10) (fun h s=>AsS.up h s) hI (un_insH hb hO) (row2 un_atH (NumH.up h8 (un_insH hb hO)) (NumH.up h9 (un_insH hb hO)))⟩
  · intro L V H' O' hI hLi hsee
    have get:=fun (j:Nat) (h:seesB _ _ j=true)=>hI.sp j (hsee j h)
    have h10:MatH (un H' O') (V 10) [[((⟨1,0,0,0⟩:P4),(0:Int))],[]]:=get 10 (by kernel_rfl)
    conv=>whnf
    refine Cl.pubAll ((c4 c14 [[((⟨1,0,0,0⟩:P4),(0:Int))],[]] (by decide) _ _ h10).ent) fun hd=>?_
    refine (c4 c14 [[((⟨1,0,0,0⟩:P4),(0:Int))],[]] (by decide) _ _ h10).val fun H3 s3=>?_
    conv=>whnf
    exact⟨⟨_,(List.append_nil _).symm⟩,_,rfl,FI.step (S:=AsS sp87) (i:=11) (fun h s=>AsS.up h s) hI (s3.trans (un_emp H3)) (rfl)⟩
  · intro L V H' O' hI hLi hsee
    have get:=fun (j:Nat) (h:seesB _ _ j=true)=>hI.sp j (hsee j h)
    have h6:V 6=.bool true:=get 6 (by kernel_rfl)
    have h11:V 11=.bool true:=get 11 (by kernel_rfl)
    conv=>whnf
    rw[h6]
    conv=>whnf
    exact⟨⟨_,(List.append_nil _).symm⟩,_,rfl,FI.step (S:=AsS sp87) (i:=12) (fun h s=>AsS.up h s) hI (Sub.refl _) (h11)⟩
  · intro L V H' O' hI hLi hsee
    have get:=fun (j:Nat) (h:seesB _ _ j=true)=>hI.sp j (hsee j h)
    have h12:V 12=.bool true:=get 12 (by kernel_rfl)
    conv=>whnf
    exact⟨⟨_,(List.append_nil _).symm⟩,_,rfl,FI.step (S:=AsS sp87) (i:=13) (fun h s=>AsS.up h s) hI (Sub.refl _) (h12)⟩
  · intro L V H' O' hI hLi hsee
    have get:=fun (j:Nat) (h:seesB _ _ j=true)=>hI.sp j (hsee j h)
    conv=>whnf
    intro c hc hO
    conv=>whnf
    exact⟨⟨_,(List.append_nil _).symm⟩,_,rfl,FI.step (S:=AsS sp87) (i:=14) (fun h s=>AsS.up h s) hI (un_insO hc hO) (nine_mat (un_atO hc))⟩
  · intro L V H' O' hI hLi hsee
    have get:=fun (j:Nat) (h:seesB _ _ j=true)=>hI.sp j (hsee j h)
    conv=>whnf
    refine Cl.pubAll (c65 1 emp).ent fun hd=>?_
    refine (c65 1 _).val fun H3 s3=>?_
    conv=>whnf
    exact⟨⟨_,(List.append_nil _).symm⟩,_,rfl,FI.step (S:=AsS sp87) (i:=15) (fun h s=>AsS.up h s) hI (s3.trans (un_emp H3)) (rfl)⟩
  · intro L V H' O' hI hLi hsee
    have get:=fun (j:Nat) (h:seesB _ _ j=true)=>hI.sp j (hsee j h)
    have h14:MatH (un H' O') (V 14) (List.replicate 9 []):=get 14 (by kernel_rfl)
    have h15:V 15=nv ((⟨1,0,0,0⟩:P4),(0:Int)):=get 15 (by kernel_rfl)
    conv=>whnf
    rw[h15]
    refine Cl.pubAll ((c6 (List.replicate 9 []) [] ((⟨1,0,0,0⟩:P4),(0:Int)) (by decide) (by decide) _ _ _ h14 (nil_mat _)).ent) fun hd=>?_
    refine (c6 (List.replicate 9 []) [] ((⟨1,0,0,0⟩:P4),(0:Int)) (by decide) (by decide) _ _ _ h14 (nil_mat _)).val fun H3 s3=>?_
    conv=>whnf
    exact⟨⟨_,(List.append_nil _).symm⟩,_,rfl,FI.step (S:=AsS sp87) (i:=16) (fun h s=>AsS.up h s) hI (s3.trans (un_emp H3)) (rfl)⟩
  · intro L V H' O' hI hLi hsee
    have get:=fun (j:Nat) (h:seesB _ _ j=true)=>hI.sp j (hsee j h)
    have h13:V 13=.bool true:=get 13 (by kernel_rfl)
    have h16:V 16=.bool true:=get 16 (by kernel_rfl)
    conv=>whnf
    rw[h13]
    conv=>whnf
    exact⟨⟨_,(List.append_nil _).symm⟩,_,rfl,FI.step (S:=AsS sp87) (i:=17) (fun h s=>AsS.up h s) hI (Sub.refl _) (h16)⟩
  · intro L V H' O' hI hLi hsee
    have get:=fun (j:Nat) (h:seesB _ _ j=true)=>hI.sp j (hsee j h)
    have h17:V 17=.bool true:=get 17 (by kernel_rfl)
    conv=>whnf
    exact⟨⟨_,(List.append_nil _).symm⟩,_,rfl,FI.step (S:=AsS sp87) (i:=18) (fun h s=>AsS.up h s) hI (Sub.refl _) (h17)⟩
  · intro L V H' O' hI hLi hsee
    have get:=fun (j:Nat) (h:seesB _ _ j=true)=>hI.sp j (hsee j h)
    conv=>whnf
    refine Cl.pubAll ((c7 Apply_eq Inner_eq [] [] [] (by decide) (by decide) (by decide) (un H' O') _ _ _ (nil_mat _) (nil_num _) (nil_num _)).ent) fun hd=>?_
    refine (c7 Apply_eq Inner_eq [] [] [] (by decide) (by decide) (by decide) (un H' O') _ _ _ (nil_mat _) (nil_num _) (nil_num _)).val fun H3 s3=>?_
    conv=>whnf
    exact⟨⟨_,(List.append_nil _).symm⟩,_,rfl,FI.step (S:=AsS sp87) (i:=19) (fun h s=>AsS.up h s) hI (s3.trans (un_emp H3)) (rfl)⟩
  · intro L V H' O' hI hLi hsee
    have get:=fun (j:Nat) (h:seesB _ _ j=true)=>hI.sp j (hsee j h)
    have h18:V 18=.bool true:=get 18 (by kernel_rfl)
    have h19:V 19=.bool true:=get 19 (by kernel_rfl)
    conv=>whnf
    rw[h18]
    conv=>whnf
    exact⟨⟨_,(List.append_nil _).symm⟩,_,rfl,FI.step (S:=AsS sp87) (i:=20) (fun h s=>AsS.up h s) hI (Sub.refl _) (h19)⟩
  · intro L V H' O' hI hLi hsee
    have get:=fun (j:Nat) (h:seesB _ _ j=true)=>hI.sp j (hsee j h)
    have h20:V 20=.bool true:=get 20 (by kernel_rfl)
    conv=>whnf
    exact⟨⟨_,(List.append_nil _).symm⟩,_,rfl,FI.step (S:=AsS sp87) (i:=21) (fun h s=>AsS.up h s) hI (Sub.refl _) (h20)⟩
  · intro L V H' O' hI hLi hsee
    have get:=fun (j:Nat) (h:seesB _ _ j=true)=>hI.sp j (hsee j h)
    conv=>whnf
    intro b hb hO
    conv=>whnf
    exact⟨⟨_,rfl⟩,_,rfl,FI.step (S:=AsS sp87) (i:=22) (fun h s=>AsS.up h s) hI (un_insH hb hO) (ints1 un_atH)⟩
  · intro L V H' O' hI hLi hsee
    have get:=fun (j:Nat) (h:seesB _ _ j=true)=>hI.sp j (hsee j h)
    have h2:IntsH (un H' O') (V 22) [1]:=get 22 (by kernel_rfl)
    obtain⟨_,_,e2⟩:=IntsH.sl1 h2
    conv=>whnf
    rw[e2] at h2 ⊢
    conv=>whnf
    intro b hb hO
    conv=>whnf
    exact⟨⟨_,rfl⟩,_,rfl,FI.step (S:=AsS sp87) (i:=23) (fun h s=>AsS.up h s) hI (un_insH hb hO) (intssJ1 un_atH (IntsH.up h2 (un_insH hb hO)))⟩
  · intro L V H' O' hI hLi hsee
    have get:=fun (j:Nat) (h:seesB _ _ j=true)=>hI.sp j (hsee j h)
    have h3:IntssH (un H' O') (V 23) [[1]]:=get 23 (by kernel_rfl)
    conv=>whnf
    refine Cl.pubAll ((c64' [[1]] (by decide) (by decide) _ _ h3).ent) fun hd=>?_
    refine (c64' [[1]] (by decide) (by decide) _ _ h3).use fun r H3 s3 hr=>?_
    obtain⟨_,hr⟩:=hr
    conv=>whnf
    exact⟨⟨_,(List.append_nil _).symm⟩,_,rfl,FI.step (S:=AsS sp87) (i:=24) (fun h s=>AsS.up h s) hI (s3.trans (un_emp H3)) (MatH.up hr (un_emp H3))⟩
  · intro L V H' O' hI hLi hsee
    have get:=fun (j:Nat) (h:seesB _ _ j=true)=>hI.sp j (hsee j h)
    have h24:MatH (un H' O') (V 24) (intsF [[1]]):=get 24 (by kernel_rfl)
    conv=>whnf
    refine Cl.pubAll ((c3 0 7 (intsF [[1]]) [] (by decide) (by decide) _ _ _ h24 (ints_nil _)).ent) fun hd=>?_
    refine (c3 0 7 (intsF [[1]]) [] (by decide) (by decide) _ _ _ h24 (ints_nil _)).val fun H3 s3=>?_
    conv=>whnf
    exact⟨⟨_,(List.append_nil _).symm⟩,_,rfl,FI.step (S:=AsS sp87) (i:=25) (fun h s=>AsS.up h s) hI (s3.trans (un_emp H3)) (rfl)⟩
  · intro L V H' O' hI hLi hsee
    have get:=fun (j:Nat) (h:seesB _ _ j=true)=>hI.sp j (hsee j h)
    have h21:V 21=.bool true:=get 21 (by kernel_rfl)
    have h25:V 25=.bool true:=get 25 (by kernel_rfl)
    conv=>whnf
    rw[h21]
    conv=>whnf
    exact⟨⟨_,(List.append_nil _).symm⟩,_,rfl,FI.step (S:=AsS sp87) (i:=26) (fun h s=>AsS.up h s) hI (Sub.refl _) (h25)⟩
  · intro L V H' O' hI hLi hsee
    have get:=fun (j:Nat) (h:seesB _ _ j=true)=>hI.sp j (hsee j h)
    have h26:V 26=.bool true:=get 26 (by kernel_rfl)
    conv=>whnf
    exact⟨⟨_,(List.append_nil _).symm⟩,_,rfl,FI.step (S:=AsS sp87) (i:=27) (fun h s=>AsS.up h s) hI (Sub.refl _) (h26)⟩
  · intro L V H' O' hI hLi hsee
    have get:=fun (j:Nat) (h:seesB _ _ j=true)=>hI.sp j (hsee j h)
    conv=>whnf
    intro b hb hO
    conv=>whnf
    exact⟨⟨_,rfl⟩,_,rfl,FI.step (S:=AsS sp87) (i:=28) (fun h s=>AsS.up h s) hI (un_insH hb hO) (ints1 un_atH)⟩
  · intro L V H' O' hI hLi hsee
    have get:=fun (j:Nat) (h:seesB _ _ j=true)=>hI.sp j (hsee j h)
    have h2:IntsH (un H' O') (V 28) [1]:=get 28 (by kernel_rfl)
    obtain⟨_,_,e2⟩:=IntsH.sl1 h2
    conv=>whnf
    rw[e2] at h2 ⊢
    conv=>whnf
    intro b hb hO
    conv=>whnf
    exact⟨⟨_,rfl⟩,_,rfl,FI.step (S:=AsS sp87) (i:=29) (fun h s=>AsS.up h s) hI (un_insH hb hO) (intssJ1 un_atH (IntsH.up h2 (un_insH hb hO)))⟩
  · intro L V H' O' hI hLi hsee
    have get:=fun (j:Nat) (h:seesB _ _ j=true)=>hI.sp j (hsee j h)
    have h3:IntssH (un H' O') (V 29) [[1]]:=get 29 (by kernel_rfl)
    conv=>whnf
    refine Cl.pubAll ((c64' [[1]] (by decide) (by decide) _ _ h3).ent) fun hd=>?_
    refine (c64' [[1]] (by decide) (by decide) _ _ h3).use fun r H3 s3 hr=>?_
    obtain⟨_,hr⟩:=hr
    conv=>whnf
    exact⟨⟨_,(List.append_nil _).symm⟩,_,rfl,FI.step (S:=AsS sp87) (i:=30) (fun h s=>AsS.up h s) hI (s3.trans (un_emp H3)) (MatH.up hr (un_emp H3))⟩
  · intro L V H' O' hI hLi hsee
    have get:=fun (j:Nat) (h:seesB _ _ j=true)=>hI.sp j (hsee j h)
    conv=>whnf
    intro b hb hO
    conv=>whnf
    exact⟨⟨_,rfl⟩,_,rfl,FI.step (S:=AsS sp87) (i:=31) (fun h s=>AsS.up h s) hI (un_insH hb hO) (ints1 un_atH)⟩
  · intro L V H' O' hI hLi hsee
    have get:=fun (j:Nat) (h:seesB _ _ j=true)=>hI.sp j (hsee j h)
    have h30:MatH (un H' O') (V 30) (intsF [[1]]):=get 30 (by kernel_rfl)
    have h31:IntsH (un H' O') (V 31) [9223372036854775807]:=get 31 (by kernel_rfl)
    conv=>whnf
    refine Cl.pubAll ((c3 15 (-9223372036854775808) (intsF [[1]]) [9223372036854775807] (by decide) (by decide) _ _ _ h30 h31).ent) fun hd=>?_
    refine (c3 15 (-9223372036854775808) (intsF [[1]]) [9223372036854775807] (by decide) (by decide) _ _ _ h30 h31).val fun H3 s3=>?_
    conv=>whnf
    exact⟨⟨_,(List.append_nil _).symm⟩,_,rfl,FI.step (S:=AsS sp87) (i:=32) (fun h s=>AsS.up h s) hI (s3.trans (un_emp H3)) (rfl)⟩
  · intro L V H' O' hI hLi hsee
    have get:=fun (j:Nat) (h:seesB _ _ j=true)=>hI.sp j (hsee j h)
    have h27:V 27=.bool true:=get 27 (by kernel_rfl)
    have h32:V 32=.bool true:=get 32 (by kernel_rfl)
    conv=>whnf
    rw[h27]
    conv=>whnf
    exact⟨⟨_,(List.append_nil _).symm⟩,_,rfl,FI.step (S:=AsS sp87) (i:=33) (fun h s=>AsS.up h s) hI (Sub.refl _) (h32)⟩
  · intro L V H' O' hI hLi hsee
    have get:=fun (j:Nat) (h:seesB _ _ j=true)=>hI.sp j (hsee j h)
    have h33:V 33=.bool true:=get 33 (by kernel_rfl)
    conv=>whnf
    exact⟨⟨_,(List.append_nil _).symm⟩,_,rfl,FI.step (S:=AsS sp87) (i:=34) (fun h s=>AsS.up h s) hI (Sub.refl _) (h33)⟩
  · intro L V H' O' hI hLi hsee
    have get:=fun (j:Nat) (h:seesB _ _ j=true)=>hI.sp j (hsee j h)
    conv=>whnf
    refine Cl.pubAll ((c14 (un H' O')).ent) fun hd=>?_
    refine (c14 (un H' O')).val fun H3 s3=>?_
    conv=>whnf
    exact⟨⟨_,(List.append_nil _).symm⟩,_,rfl,FI.step (S:=AsS sp87) (i:=35) (fun h s=>AsS.up h s) hI (s3.trans (un_emp H3)) (rfl)⟩
  · intro L V H' O' hI hLi hsee
    have get:=fun (j:Nat) (h:seesB _ _ j=true)=>hI.sp j (hsee j h)
    have h34:V 34=.bool true:=get 34 (by kernel_rfl)
    have h35:V 35=.bool true:=get 35 (by kernel_rfl)
    conv=>whnf
    rw[h34]
    conv=>whnf
    exact⟨⟨_,(List.append_nil _).symm⟩,_,rfl,FI.step (S:=AsS sp87) (i:=36) (fun h s=>AsS.up h s) hI (Sub.refl _) (h35)⟩
  · intro L V H' O' hI hLi hsee
    have get:=fun (j:Nat) (h:seesB _ _ j=true)=>hI.sp j (hsee j h)
    have h36:V 36=.bool true:=get 36 (by kernel_rfl)
    conv=>whnf
    exact⟨⟨_,(List.append_nil _).symm⟩,_,rfl,FI.step (S:=AsS sp87) (i:=37) (fun h s=>AsS.up h s) hI (Sub.refl _) (h36)⟩
  intro L V H' O' hI hall
  have e37:V 37=.bool true:=hI.sp 37 (hall 37 (by decide))
  conv=>whnf
  rw[e37]
  clear e37 hI hall
  conv=>whnf
  rw[← hKR]
  clear hKR KR
  conv=>whnf
end Go.Proofs.YtgbhgfdgifkdhaaGreat

namespace Go.Proofs.YtgbhgfdgifkdhaaGreat
open Go.Proofs.YtgbhgfdgifkdhaaGreat.X Go.Proofs.YtgbhgfdgifkdhaaGreat.X.PH Go.ChangeShapes Go.WideShapes Go.ChangeAt Go.RowKit Go.Deep
set_option maxRecDepth 100000
theorem Cl.calls {f : FuncId} {args:List Value} {W:World} {Q:Value→Prop} (h:Cl Tryz.prog f args (heapP W) emp fun v _ _=>Q v):Calls Tryz.prog f args.toArray W fun e W'=>∃ v,e=.returned v∧Below W.heap.size W W'∧Q v:=by
  unfold Cl at h
  refine (h.2 W (fun n o hn=>hn) (fun n o hn=>by cases hn) (.emp _)).mono ?_
  rintro e W' ⟨v,H',M',he,hp,hq⟩
  exact⟨v,he,hp.frm.below,hq⟩
end Go.Proofs.YtgbhgfdgifkdhaaGreat

namespace Go.Proofs.YtgbhgfdgifkdhaaGreat
open Go.Proofs.YtgbhgfdgifkdhaaGreat.X Go.Proofs.YtgbhgfdgifkdhaaGreat.X.PH Go.ChangeShapes Go.WideShapes Go.ChangeAt Go.RowKit Go.Deep
set_option maxRecDepth 100000
section
variable {H : Type} {enc : TypeId × Value → H} {W : World}
end
end Go.Proofs.YtgbhgfdgifkdhaaGreat
