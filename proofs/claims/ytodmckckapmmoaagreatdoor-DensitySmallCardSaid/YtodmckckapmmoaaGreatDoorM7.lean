/- A logic for code of the model, proved sound, and what functions do that the laws on matrices come to; nothing is asked. Part 7. -/
import Derived.Test.YtodmckckapmmoaaGreatDoorM6
import Derived.LaidMore
import Derived.ProofKit
import Derived.Stop.Joined
import Derived.Test.YtodmckckapmmoaaGreatDoorRows
set_option linter.unusedVariables false
set_option linter.unusedSimpArgs false
set_option linter.unnecessarySimpa false
namespace Go.Proofs.YtodmckckapmmoaaGreatDoor
open Go.Proofs.YtodmckckapmmoaaGreatDoor.X Go.Proofs.YtodmckckapmmoaaGreatDoor.X.PH
set_option maxRecDepth 100000
def entsFrom (a : Nat):List Value→List MapEntry
 | []=>[]
 | u::us=>{ key:=.int .i64 (a:Int),val:=u,born:=a }::entsFrom (a+1) us
def entsM (us : List Value):Array MapEntry:=⟨entsFrom 0 us⟩
theorem entsFrom_len : ∀ (us:List Value) (a:Nat),(entsFrom a us).length=us.length
 | [],_=>rfl
 | _::us,a=>by simp[entsFrom,entsFrom_len us (a+1)]
theorem entsFrom_snoc : ∀ (us:List Value) (a:Nat) (u:Value),entsFrom a (us++[u])=entsFrom a us++[{ key:=.int .i64 ((a+us.length:Nat):Int),val:=u,born:=a+us.length }]
 | [],a,u=>by simp[entsFrom]
 | x::us,a,u=>by
  simp only[List.cons_append,entsFrom,List.length_cons]
  rw[entsFrom_snoc us (a+1) u]
  have e:a+1+us.length=a+(us.length+1):=by omega
  rw[e]
theorem entsM_push (us : List Value) (u:Value):(entsM us).push { key:=.int .i64 (us.length:Int),val:=u,born:=us.length }=entsM (us++[u]):=by
 unfold entsM
 rw[entsFrom_snoc]
 simp
theorem sameNow_int (a b : Int):Instr.sameNow (.int .i64) (.int .i64 a) (.int .i64 b)=some (a == b):=by
 first | rfl | simp[Instr.sameNow]
theorem find_none : ∀ (us:List Value) (a i:Nat) (k:Nat),(k < a∨a+us.length≤k)→Instr.findNow (.int .i64) (.int .i64 (k:Int)) (entsFrom a us) i=some none
 | [],_,_,_,_=>rfl
 | u::us,a,i,k,h=>by
  have hne:((k:Int) == (a:Int))=false:=beq_eq_false_iff_ne.2 (by simp at h;omega)
  simp only[entsFrom,Instr.findNow,sameNow_int,hne]
  exact find_none us (a+1) (i+1) k (by simp at h;omega)
theorem find_some : ∀ (us:List Value) (a i:Nat) (k:Nat) (u:Value),us[k]?=some u→Instr.findNow (.int .i64) (.int .i64 ((a+k:Nat):Int)) (entsFrom a us) i=some (some (i+k,u))
 | [],_,_,k,u,h=>by simp at h
 | x::us,a,i,0,u,h=>by
  cases h
  simp only[entsFrom,Instr.findNow,sameNow_int,Nat.add_zero,beq_self_eq_true]
 | x::us,a,i,k+1,u,h=>by
  have hne:(((a+(k+1):Nat):Int) == (a:Int))=false:=beq_eq_false_iff_ne.2 (by omega)
  have ih:=find_some us (a+1) (i+1) k u (by simpa using h)
  simp only[entsFrom,Instr.findNow,sameNow_int,hne]
  rw[show a+(k+1)=a+1+k by omega,show i+(k+1)=i+1+k by omega]
  exact ih
theorem entsFrom_get : ∀ (us:List Value) (a k:Nat) (u:Value),us[k]?=some u→(entsFrom a us)[k]?=some { key:=.int .i64 ((a+k:Nat):Int),val:=u,born:=a+k }
 | [],_,k,u,h=>by simp at h
 | x::us,a,0,u,h=>by cases h;rfl
 | x::us,a,k+1,u,h=>by
  have ih:=entsFrom_get us (a+1) k u (by simpa using h)
  show (entsFrom (a+1) us)[k]?=_
  rw[ih,show a+1+k=a+(k+1) by omega]
theorem entsFrom_set : ∀ (us:List Value) (a k:Nat) (v:Value),k < us.length→(entsFrom a us).modify k (fun e=>{ e with key:=.int .i64 ((a+k:Nat):Int),val:=v })=entsFrom a (us.set k v)
 | [],_,k,v,h=>by simp at h
 | x::us,a,0,v,h=>rfl
 | x::us,a,k+1,v,h=>by
  have ih:=entsFrom_set us (a+1) k v (by simpa using h)
  show _::(entsFrom (a+1) us).modify k _=_::entsFrom (a+1) (us.set k v)
  rw[← ih,show a+1+k=a+(k+1) by omega]
theorem entsM_set {us : List Value} {k:Nat} (v:Value) (h:k < us.length):(entsM us).modify k (fun e=>{ e with key:=.int .i64 (k:Int),val:=v })=entsM (us.set k v):=by
 have:=entsFrom_set us 0 k v h
 rw[Nat.zero_add] at this
 unfold entsM
 rw[← this]
 simp
theorem lookM {H O : PH} {mb:Nat} {us:List Value} {clk k:Nat} {u:Value} {K:Option Value→Prop} (hO:H mb=some (.map (entsM us) clk)∨O mb=some (.map (entsM us) clk)) (hk:us[k]?=some u) (h:K (some u)):lookK H O .i64 (.map (some mb)) (.int .i64 (k:Int)) K:=by
 unfold lookK
 have:=find_some us 0 0 k u hk
 rw[Nat.zero_add] at this
 exact⟨_,_,rfl,.inr ⟨mb,_,_,_,rfl,hO,this,h⟩⟩
theorem putM {O : PH} {mb:Nat} {us:List Value} {clk k:Nat} {v:Value} {K:PH→Prop} (hO:O mb=some (.map (entsM us) clk)) (hk:k < us.length) (h:K (ins O mb (.map (entsM (us.set k v)) clk))):enterK O .i64 (.map (some mb)) (.int .i64 (k:Int)) v K:=by
 unfold enterK
 have:=find_some us 0 0 k _ (List.getElem?_eq_getElem hk)
 rw[Nat.zero_add] at this
 refine .inr ⟨_,_,mb,_,_,_,_,rfl,rfl,hO,this,?_,?_⟩
 ·have hg:=entsFrom_get us 0 k _ (List.getElem?_eq_getElem hk)
  rw[Nat.zero_add] at hg
  unfold entsM
  rw[← Array.getElem?_toList]
  show Option.map _ ((entsFrom 0 us)[k]?)=_
  rw[hg]
  rfl
 ·rw[entsM_set v hk]
  exact h
theorem newM {O : PH} {mb:Nat} {us:List Value} {v:Value} {K:PH→Prop} (hO:O mb=some (.map (entsM us) us.length)) (h:K (ins O mb (.map (entsM (us++[v])) (us++[v]).length))):enterK O .i64 (.map (some mb)) (.int .i64 (us.length:Int)) v K:=by
 unfold enterK
 have:=find_none us 0 0 us.length (by omega)
 refine .inl ⟨_,_,mb,_,_,rfl,rfl,hO,this,?_⟩
 rw[entsM_push]
 rw[List.length_append] at h
 exact h
def MapN (H0 H : PH) (us:List Value) (l:List Mx):Prop:=us.length=l.length∧OwnL emp (newH H0 H) (us.zip l)
theorem MapN.up {H0 H H' : PH} {us:List Value} {l:List Mx} (h:MapN H0 H us l) (hs:Sub H H'):MapN H0 H' us l:=⟨h.1,h.2.up (newH_up hs)⟩
theorem OwnL.set : ∀ {l:List (Value × Mx)} {O O' M:PH} {u:Value} {x:Mx} (b:Nat),OwnL emp O l→Sub O O'→Sub M O'→Dis M O→OwnQ M u x→OwnL emp O' (l.set b (u,x))
 | [],_,_,_,_,_,_,_,_,_,_,_=>fun _ _ h=>by cases h
 | (u0,x0)::l,O,O',M,u,x,0,⟨M0,R,h1,h2,h3,h4,h5⟩,ho,hm,hd,hq=>⟨M,R,hm,h2.trans ho,Dis.symm (Dis.sub (Dis.symm hd) h2),hq,h5⟩
 | (u0,x0)::l,O,O',M,u,x,b+1,⟨M0,R,h1,h2,h3,h4,h5⟩,ho,hm,hd,hq=>by
  refine⟨M0,un M R,h1.trans ho,?_,?_,h4,OwnL.set b h5 (un_r (Dis.symm (Dis.sub (Dis.symm hd) h2))) un_l (Dis.symm (Dis.sub (Dis.symm hd) h2)) hq⟩
  ·intro n o hn
   unfold un at hn
   cases e:M n with
   | some o'=>rw[e] at hn;cases hn;exact hm _ _ e
   | none=>rw[e] at hn;exact ho _ _ (h2 _ _ hn)
  ·intro n
   cases e:M0 n with
   | none=>exact .inl rfl
   | some o=>
    refine .inr ?_
    unfold un
    rw[(hd n).resolve_right (by rw[h1 _ _ e];simp)]
    exact (h3 n).resolve_left (by rw[e];simp)
theorem newH_dis {H0 H H' : PH}:Dis (newH H H') (newH H0 H):=fun n=>by
 cases e:H n with
 | some o=>exact .inl (by simp[newH,e])
 | none=>
  refine .inr ?_
  unfold newH
  cases H0 n<;>simp[e]
theorem zip_set : ∀ (us:List Value) (l:List Mx) (b:Nat) (u:Value) (x:Mx),(us.set b u).zip (l.set b x)=(us.zip l).set b (u,x)
 | [],_,_,_,_=>by simp
 | _::_,[],_,_,_=>by simp
 | _::us,_::l,0,_,_=>rfl
 | _::us,_::l,b+1,u,x=>by
  simp only[List.set_cons_succ,List.zip_cons_cons]
  rw[zip_set us l b u x]
theorem OwnQ_of {H0 H : PH} {u:Value} {m:Mx} (h:MatN H0 H u m):OwnQ (newH H0 H) u m:=by
 obtain⟨a,b,h1,h2,h3⟩:=h
 exact .inr ⟨a,b,h1,h2,h3⟩
theorem MapN.set {H0 H H' : PH} {us:List Value} {l:List Mx} {b:Nat} {u:Value} {x:Mx} (h:MapN H0 H us l) (h0:Sub H0 H) (hs:Sub H H') (hm:MatN H H' u x):MapN H0 H' (us.set b u) (l.set b x):=by
 refine⟨by simp[h.1],?_⟩
 rw[zip_set]
 exact OwnL.set b h.2 (newH_up hs) (newH_base h0) newH_dis (OwnQ_of hm)
theorem MapN.snoc {H0 H H' : PH} {us:List Value} {l:List Mx} {u:Value} {x:Mx} (h:MapN H0 H us l) (h0:Sub H0 H) (hs:Sub H H') (hm:MatN H H' u x):MapN H0 H' (us++[u]) (l++[x]):=by
 refine⟨by simp[h.1],?_⟩
 rw[List.zip_append h.1]
 refine (OwnL.snoc h.2 newH_dis (OwnQ_of hm)).up fun n o hn=>?_
 unfold un at hn
 cases e:newH H H' n with
 | some o'=>rw[e] at hn;cases hn;exact newH_base h0 _ _ e
 | none=>rw[e] at hn;exact newH_up hs _ _ hn
theorem MapN.nil (H0 H : PH):MapN H0 H [] []:=⟨rfl,fun _ _ h=>by cases h⟩
theorem MapN.at {H0 H : PH} {us:List Value} {l:List Mx} (h:MapN H0 H us l) {b:Nat} (hb:b < l.length):∃ u,us[b]?=some u∧MatH H u l[b]:=by
 have hb':b < us.length:=by rw[h.1];exact hb
 refine⟨us[b],List.getElem?_eq_getElem hb',?_⟩
 have hm:(us[b],l[b])∈us.zip l:=by
  refine List.mem_iff_getElem.2 ⟨b,by rw[List.length_zip];omega,by simp⟩
 have hq:=(h.2.mem hm).up (newH_sub _ _)
 rcases hq with⟨e,e'⟩ | ⟨x,y,q1,q2,q3⟩
 ·rw[e,e'];exact nilM _
 ·exact (show MatN emp H us[b] l[b] from ⟨x,y,q1,q2,q3.up fun n o hn=>hn⟩).mat
def zeroM (N : Nat):Mx:=List.replicate N (zeros N)
def toB (b B o : Nat):Nat:=clB B b+o*2 ^ b
def bitN (t b : Nat):Nat:=if t.testBit b then 1 else 0
def cam1 (b t B o : Nat):Bool:=decide (clB t b < B) || (Nat.beq (clB t b) B && decide (bitN t b < o))
def cam2 (b t B o : Nat):Bool:=decide (clB t b+2 ^ b < B) || (Nat.beq (clB t b+2 ^ b) B && decide (bitN t b < o))
theorem to_int : ∀ B:Nat,B < 16→∀ b:Nat,b < 4→∀ o:Nat,o < 2→orI (andNotI (B:Int) (shlI 1 (b:Int))) (shlI (o:Int) (b:Int))=(toB b B o:Nat):=by decide +kernel
theorem to_lt : ∀ q:Nat,q < 5→∀ b:Nat,b < q→∀ B:Nat,B < 2 ^ q→∀ o:Nat,o < 2→toB b B o < 2 ^ q:=by decide +kernel
theorem low_lt : ∀ q:Nat,q < 5→∀ b:Nat,b < q→∀ t:Nat,t < 2 ^ q→clB t b < 2 ^ q∧clB t b+2 ^ b < 2 ^ q∧cam2 b t (2 ^ q) 0=true:=by decide +kernel
def okOther (B b o t : Nat):Bool:=Nat.beq t (toB b B o) || ((cam1 b t B (o+1) == cam1 b t B o) && (cam2 b t B (o+1) == cam2 b t B o))
theorem okOther_all : ∀ B:Nat,B < 16→∀ b:Nat,b < 4→∀ o:Nat,o < 2→∀ t:Nat,t < 16→okOther B b o t=true:=by decide +kernel
theorem cam_other (B : Nat) (hB:B < 16) (b:Nat) (hb:b < 4) (o:Nat) (ho:o < 2) (t:Nat) (ht:t < 16) (hne:t ≠ toB b B o):cam1 b t B (o+1)=cam1 b t B o∧cam2 b t B (o+1)=cam2 b t B o:=by
 have h:=okOther_all B hB b hb o ho t ht
 unfold okOther at h
 rw[Bool.or_eq_true,Bool.and_eq_true,beq_iff_eq,beq_iff_eq] at h
 rcases h with h | h
 ·exact absurd (Nat.eq_of_beq_eq_true h) hne
 ·exact h
def okLow (B b o : Nat):Bool:=B.testBit b || (!cam1 b (toB b B o) B o && (!cam2 b (toB b B o) B o && (cam1 b (toB b B o) B (o+1) && (!cam2 b (toB b B o) B (o+1) && (Nat.beq (clB (toB b B o) b) B && Nat.beq (bitN (toB b B o) b) o)))))
theorem okLow_all : ∀ B:Nat,B < 16→∀ b:Nat,b < 4→∀ o:Nat,o < 2→okLow B b o=true:=by decide +kernel
theorem cam_low (B : Nat) (hB:B < 16) (b:Nat) (hb:b < 4) (o:Nat) (ho:o < 2) (h0:B.testBit b=false):cam1 b (toB b B o) B o=false∧cam2 b (toB b B o) B o=false∧cam1 b (toB b B o) B (o+1)=true∧cam2 b (toB b B o) B (o+1)=false∧clB (toB b B o) b=B∧bitN (toB b B o) b=o:=by
 have h:=okLow_all B hB b hb o ho
 unfold okLow at h
 rw[h0,Bool.false_or] at h
 simp only[Bool.and_eq_true,Bool.not_eq_true'] at h
 obtain⟨q1,q2,q3,q4,q5,q6⟩:=h
 exact⟨q1,q2,q3,q4,Nat.eq_of_beq_eq_true q5,Nat.eq_of_beq_eq_true q6⟩
def okHigh (B b o : Nat):Bool:=!B.testBit b || (cam1 b (toB b B o) B o && (!cam2 b (toB b B o) B o && (cam1 b (toB b B o) B (o+1) && (cam2 b (toB b B o) B (o+1) && (Nat.beq (clB (toB b B o) b+2 ^ b) B && Nat.beq (bitN (toB b B o) b) o)))))
theorem okHigh_all : ∀ B:Nat,B < 16→∀ b:Nat,b < 4→∀ o:Nat,o < 2→okHigh B b o=true:=by decide +kernel
theorem cam_high (B : Nat) (hB:B < 16) (b:Nat) (hb:b < 4) (o:Nat) (ho:o < 2) (h0:B.testBit b=true):cam1 b (toB b B o) B o=true∧cam2 b (toB b B o) B o=false∧cam1 b (toB b B o) B (o+1)=true∧cam2 b (toB b B o) B (o+1)=true∧clB (toB b B o) b+2 ^ b=B∧bitN (toB b B o) b=o:=by
 have h:=okHigh_all B hB b hb o ho
 unfold okHigh at h
 rw[h0,Bool.not_true,Bool.false_or] at h
 simp only[Bool.and_eq_true,Bool.not_eq_true'] at h
 obtain⟨q1,q2,q3,q4,q5,q6⟩:=h
 exact⟨q1,q2,q3,q4,Nat.eq_of_beq_eq_true q5,Nat.eq_of_beq_eq_true q6⟩
theorem cam_next : ∀ B:Nat,B < 16→∀ b:Nat,b < 4→∀ t:Nat,t < 16→cam1 b t B 2=cam1 b t (B+1) 0∧cam2 b t B 2=cam2 b t (B+1) 0:=by decide +kernel
theorem cam_zero : ∀ b:Nat,b < 4→∀ t:Nat,t < 16→cam1 b t 0 0=false∧cam2 b t 0 0=false:=by decide +kernel
def measC (l : List Mx) (k b t:Nat):Mx × Int:=AddMF (keptM (l.getD (clB t b) []) k (bitN t b)) (keptM (l.getD (clB t b+2 ^ b) []) k (bitN t b))
def nowAt (N : Nat) (l:List Mx) (k b B o t:Nat):Mx:=if cam2 b t B o=true then (measC l k b t).1 else if cam1 b t B o=true then keptM (l.getD (clB t b) []) k (bitN t b) else zeroM N
def nowL (N : Nat) (l:List Mx) (k b B o:Nat):List Mx:=(List.range l.length).map (nowAt N l k b B o)
def AllR (N : Nat) (l:List Mx):Prop:=∀ m∈l,checkMF m=0∧m.length=N∧wideM m=N
theorem AllR.at {N : Nat} {l:List Mx} (h:AllR N l) {i:Nat} (hi:i < l.length):checkMF (l.getD i [])=0∧(l.getD i []).length=N∧wideM (l.getD i [])=N:=by
 rw[List.getD_eq_getElem?_getD,List.getElem?_eq_getElem hi]
 exact h _ (List.getElem_mem hi)
theorem add8 {m o : Mx} {N:Nat} (h1:checkMF m=0∧m.length=N∧wideM m=N) (h2:checkMF o=0∧o.length=N∧wideM o=N):(AddMF m o).2=0∨(AddMF m o).2=8:=by
 obtain⟨c1,l1,w1⟩:=h1
 obtain⟨c2,l2,w2⟩:=h2
 have he:addErr m o=0:=by
  unfold addErr bothErr errsM
  rw[show firstErr ([m,o].map checkMF)=0 by simp[firstErr,c1,c2],if_neg (by simp),show alikeF m o=true by unfold alikeF;rw[l1,l2,w1,w2];simp]
  rfl
 have hall:∀ e∈errsE (addAt m o) m.length (wideM m),e=0∨e=8:=fun e hx=>by
  unfold errsE at hx
  obtain⟨t,ht,rfl⟩:=List.mem_map.1 hx
  have ht:=List.mem_range.1 ht
  obtain⟨g1,g2,_⟩:=placesN_uniform ht
  have k1:=entry_right c1 g1 g2
  have k2:=entry_right c2 (i:=t / wideM m) (k:=t % wideM m) (by omega) (by omega)
  unfold addAt
  rw[Add_eq]
  obtain⟨e,_⟩:=Add_fits k1 k2
  rw[e]
  unfold fitsR
  split
  ·exact .inr rfl
  ·exact .inl rfl
 unfold AddMF resM
 rw[he,if_neg (by simp)]
 split
 ·rename_i h
  dsimp only
  have:∀ l:List Int,(∀ e∈l,e=0∨e=8)→firstErr l=0∨firstErr l=8:=by
   intro l
   induction l with
   | nil=>exact fun _=>.inl rfl
   | cons x l ih=>
    intro hl
    unfold firstErr
    by_cases hx:x=0
    ·rw[if_pos hx]
     exact ih fun e he=>hl e (by simp[he])
    ·rw[if_neg hx]
     exact hl x (by simp)
  exact this _ hall
 ·exact .inl rfl
theorem firstErr8 : ∀ l:List Int,(∀ e∈l,e=0∨e=8)→(∃ e∈l,e ≠ 0)→firstErr l=8
 | [],_,h=>by obtain⟨e,he,_⟩:=h;cases he
 | x::l,h,⟨e,he,hne⟩=>by
  unfold firstErr
  by_cases hx:x=0
  ·rw[if_pos hx]
   refine firstErr8 l (fun e he=>h e (by simp[he])) ⟨e,?_,hne⟩
   rcases List.mem_cons.1 he with rfl | h'
   ·exact absurd hx hne
   ·exact h'
  ·rw[if_neg hx]
   exact (h x (by simp)).resolve_left hx
theorem zero_facts {N : Nat} (h1:0 < N) (h2:N≤64):checkMF (zeroM N)=0∧(zeroM N).length=N∧wideM (zeroM N)=N∧∀ i k,i < N→k < N→entry (zeroM N) i k=(P4.zero,0):=by
 have e:zeroM N=gridM (fun _ _=>((P4.zero,0),0)) N N:=by
  unfold zeroM zeros gridM
  rw[List.map_const',List.map_const']
  simp
 obtain⟨c1,c2⟩:=grid_check (F:=fun _ _=>((P4.zero,0),0)) h1 h2 fun _ _ _ _=>by decide
 rw[e]
 exact⟨c1,gridM_len _ _ _,c2,fun i k hi hk=>gridM_entry _ hi hk⟩
theorem addR_zero {x : P4 × Int} (h:IsL x):AddR (P4.zero,0) x=(x,0):=by
 obtain⟨e,hw⟩:=Add_fits (x:=(P4.zero,0)) (y:=x) (by decide) h.ok
 have r:=right_in h.ok
 have hs:sumP (P4.zero,0) x=x.1:=by
  unfold sumP
  dsimp only
  rw[rz_zero,zero_pl,show (max (0:Int) x.2 - x.2).toNat=0 by omega]
  rfl
 rw[hs,show max ((P4.zero,(0:Int)):P4 × Int).2 x.2=x.2 by dsimp only;omega] at e
 rw[e]
 unfold fitsR
 rw[h.form,if_neg (by rw[← checkF_checkR,h.ok];simp)]
theorem least_zero {N : Nat} (h1:0 < N) (h2:N≤64):LeastMF (zeroM N)=(zeroM N,0):=by
 obtain⟨c,l,w,e⟩:=zero_facts h1 h2
 unfold LeastMF
 rw[← checkMF_checkMR,c,if_neg (by simp)]
 refine congrArg (·,(0:Int)) ?_
 have hf:formsR (zeros N)=zeros N:=by
  unfold formsR zeros
  rw[List.map_replicate]
  rfl
 unfold zeroM
 rw[List.map_replicate,hf]
theorem added_zero {m : Mx} {N:Nat} (hc:checkMF m=0) (hl:m.length=N) (hw:wideM m=N) (k:Nat) (x:Int):addedM (zeroM N) [keptM m k x]=(keptM m k x,0):=by
 have rm:=right_of hc
 have h1:0 < N:=by rw[← hl];exact rm.pos
 have h2:N≤64:=by rw[← hl];exact rm.le
 obtain⟨c,l,w,e⟩:=zero_facts h1 h2
 obtain⟨kc,kl,kw,_⟩:=kept_facts hc hl hw k x
 have key:∀ i j,i < N→j < N→addAt (zeroM N) (keptM m k x) i j=((keptAt m k x i j).1,0):=fun i j hi hj=>by
  unfold addAt
  rw[Add_eq,e i j hi hj,kept_entry (by omega) (by omega)]
  refine addR_zero ?_
  unfold keptAt
  split
  ·have h:=entry_right hc (i:=i) (k:=j) (by omega) (by omega)
   rw[LeastF_eq h]
   exact form_L h
  ·exact zero_L
 unfold addedM
 rw[least_zero h1 h2]
 show addStep (zeroM N,0) (keptM m k x)=_
 unfold addStep
 rw[if_pos rfl]
 unfold AddMF
 have he:addErr (zeroM N) (keptM m k x)=0:=by
  unfold addErr bothErr errsM
  rw[show firstErr ([zeroM N,keptM m k x].map checkMF)=0 by simp[firstErr,c,kc],if_neg (by simp),show alikeF (zeroM N) (keptM m k x)=true by unfold alikeF;rw[l,kl,w,kw];simp]
  rfl
 rw[l,w,resM_ok he (errs_zero fun i j hi hj=>by rw[key i j hi hj])]
 have hg:gridM (addAt (zeroM N) (keptM m k x)) N N=gridM (keptAt m k x) N N:=(grid_congr fun i j hi hj=>by rw[key i j hi hj];unfold keptAt;split<;>rfl).1
 show (gridM (addAt (zeroM N) (keptM m k x)) N N,(0:Int))=_
 rw[hg]
 unfold keptM
 rw[hl]
theorem now_len (N : Nat) (l:List Mx) (k b B o:Nat):(nowL N l k b B o).length=l.length:=by simp[nowL]
theorem now_get {N : Nat} {l:List Mx} {k b B o t:Nat} (ht:t < l.length):(nowL N l k b B o)[t]?=some (nowAt N l k b B o t):=by
 unfold nowL
 rw[List.getElem?_map,List.getElem?_range ht]
 rfl
theorem now_step {N q : Nat} {l:List Mx} {k b B o:Nat} (hq:q < 5) (hb:b < q) (hl:l.length=2 ^ q) (hr:AllR N l) (hB:B < 2 ^ q) (ho:o < 2) :
 (addedM (nowAt N l k b B o (toB b B o)) [keptM (l.getD B []) k o]=if B.testBit b=true then measC l k b (toB b B o) else (keptM (l.getD B []) k o,0)) ∧
  ((addedM (nowAt N l k b B o (toB b B o)) [keptM (l.getD B []) k o]).2=0→nowL N l k b B (o+1)=(nowL N l k b B o).set (toB b B o) (addedM (nowAt N l k b B o (toB b B o)) [keptM (l.getD B []) k o]).1):=by
 have hQ:2 ^ q≤16:=Nat.pow_le_pow_right (by decide) (by omega:q≤4)
 have ht:=to_lt q hq b hb B hB o ho
 obtain⟨r1,r2,r3⟩:=hr.at (i:=B) (by omega)
 have first:addedM (nowAt N l k b B o (toB b B o)) [keptM (l.getD B []) k o]=if B.testBit b=true then measC l k b (toB b B o) else (keptM (l.getD B []) k o,0):=by
  cases hbit:B.testBit b with
  | false=>
   obtain⟨c1,c2,c3,c4,c5,c6⟩:=cam_low B (by omega) b (by omega) o ho hbit
   rw[if_neg (by simp)]
   unfold nowAt
   rw[c2,c1,if_neg (by simp),if_neg (by simp)]
   exact added_zero r1 r2 r3 k o
  | true=>
   obtain⟨c1,c2,c3,c4,c5,c6⟩:=cam_high B (by omega) b (by omega) o ho hbit
   rw[if_pos rfl]
   have hlow:=(low_lt q hq b hb _ ht).1
   obtain⟨s1,s2,s3⟩:=hr.at (i:=clB (toB b B o) b) (by omega)
   unfold nowAt
   rw[c2,c1,if_neg (by simp),if_pos rfl,added_kept s1 s2 s3]
   unfold measC
   rw[c5,c6]
 refine⟨first,fun h0=>?_⟩
 rw[first] at h0 ⊢
 apply List.ext_getElem?
 intro t
 by_cases htl:t < l.length
 ·rw[now_get htl]
  by_cases e:toB b B o=t
  ·subst e
   rw[List.getElem?_set_self (by rw[now_len];exact htl)]
   cases hbit:B.testBit b with
   | false=>
    obtain⟨c1,c2,c3,c4,c5,c6⟩:=cam_low B (by omega) b (by omega) o ho hbit
    rw[if_neg (by simp)]
    unfold nowAt
    rw[c4,c3,if_neg (by simp),if_pos rfl,c5,c6]
   | true=>
    obtain⟨c1,c2,c3,c4,c5,c6⟩:=cam_high B (by omega) b (by omega) o ho hbit
    rw[if_pos rfl]
    unfold nowAt
    rw[c4,if_pos rfl]
  ·rw[List.getElem?_set_ne e,now_get htl]
   obtain⟨c1,c2⟩:=cam_other B (by omega) b (by omega) o ho t (by omega) (Ne.symm e)
   unfold nowAt
   rw[c1,c2]
 ·rw[List.getElem?_eq_none (by rw[now_len];omega),List.getElem?_eq_none (by rw[List.length_set,now_len];omega)]
theorem now_next {N q : Nat} {l:List Mx} {k b B:Nat} (hq:q < 5) (hb:b < q) (hl:l.length=2 ^ q) (hB:B < 2 ^ q):nowL N l k b B 2=nowL N l k b (B+1) 0:=by
 have hQ:2 ^ q≤16:=Nat.pow_le_pow_right (by decide) (by omega:q≤4)
 unfold nowL
 refine List.map_congr_left fun t ht=>?_
 have ht:=List.mem_range.1 ht
 obtain⟨c1,c2⟩:=cam_next B (by omega) b (by omega) t (by omega)
 unfold nowAt
 rw[c1,c2]
theorem now_zero {N q : Nat} {l:List Mx} {k b:Nat} (hq:q < 5) (hb:b < q) (hl:l.length=2 ^ q):nowL N l k b 0 0=List.replicate (2 ^ q) (zeroM N):=by
 have hQ:2 ^ q≤16:=Nat.pow_le_pow_right (by decide) (by omega:q≤4)
 apply List.ext_getElem?
 intro t
 by_cases htl:t < l.length
 ·obtain⟨c1,c2⟩:=cam_zero b (by omega) t (by omega)
  rw[now_get htl,List.getElem?_replicate,if_pos (by omega)]
  unfold nowAt
  rw[c1,c2,if_neg (by simp),if_neg (by simp)]
 ·rw[List.getElem?_eq_none (by rw[now_len];omega),List.getElem?_replicate,if_neg (by omega)]
theorem now_done {N q : Nat} {l:List Mx} {k b:Nat} (hq:q < 5) (hb:b < q) (hl:l.length=2 ^ q):nowL N l k b (2 ^ q) 0=(List.range l.length).map fun t=>(measC l k b t).1:=by
 unfold nowL
 refine List.map_congr_left fun t ht=>?_
 have ht:=List.mem_range.1 ht
 have:=(low_lt q hq b hb t (by omega)).2.2
 unfold nowAt
 rw[this,if_pos rfl]
def measL (l : List Mx) (k b:Nat):List Mx × Int:=if firstErr ((List.range l.length).map fun t=>(measC l k b t).2) ≠ 0 then ([],firstErr ((List.range l.length).map fun t=>(measC l k b t).2)) else ((List.range l.length).map fun t=>(measC l k b t).1,0)
theorem meas8 {N q : Nat} {l:List Mx} {k b t:Nat} (hq:q < 5) (hb:b < q) (hl:l.length=2 ^ q) (hr:AllR N l) (ht:t < l.length):(measC l k b t).2=0∨(measC l k b t).2=8:=by
 obtain⟨a1,a2,_⟩:=low_lt q hq b hb t (by omega)
 obtain⟨r1,r2,r3⟩:=hr.at (i:=clB t b) (by omega)
 obtain⟨s1,s2,s3⟩:=hr.at (i:=clB t b+2 ^ b) (by omega)
 obtain⟨k1,k2,k3,_⟩:=kept_facts r1 r2 r3 k (bitN t b)
 obtain⟨j1,j2,j3,_⟩:=kept_facts s1 s2 s3 k (bitN t b)
 exact add8 ⟨k1,k2,k3⟩ ⟨j1,j2,j3⟩
theorem meas_bad {N q : Nat} {l:List Mx} {k b t:Nat} (hq:q < 5) (hb:b < q) (hl:l.length=2 ^ q) (hr:AllR N l) (ht:t < l.length) (h:(measC l k b t).2 ≠ 0):measL l k b=([],8)∧(measC l k b t).2=8:=by
 have e:firstErr ((List.range l.length).map fun t=>(measC l k b t).2)=8:=by
  refine firstErr8 _ (fun e he=>?_) ⟨_,List.mem_map.2 ⟨t,List.mem_range.2 ht,rfl⟩,h⟩
  obtain⟨s,hs,rfl⟩:=List.mem_map.1 he
  exact meas8 hq hb hl hr (List.mem_range.1 hs)
 unfold measL
 rw[e,if_pos (by decide)]
 exact⟨rfl,(meas8 hq hb hl hr ht).resolve_left h⟩
theorem meas_ok {l : List Mx} {k b:Nat} (h:∀ t,t < l.length→(measC l k b t).2=0):measL l k b=((List.range l.length).map fun t=>(measC l k b t).1,0):=by
 have e:firstErr ((List.range l.length).map fun t=>(measC l k b t).2)=0:=firstErr_all fun e he=>by
  obtain⟨s,hs,rfl⟩:=List.mem_map.1 he
  exact h s (List.mem_range.1 hs)
 unfold measL
 rw[e,if_neg (by simp)]
def polMs : Tmp→Pol:=fun | 3=>.imm | 70=>.imm | _=>.loc
def MSp (H1 : PH) (nb rb b3 mb:Nat) (ut ub wv:Value) (wa:Addr) (t0 B k o:Nat) (K:Mx) (R:Mx × Int):Nat→Value→PH→Prop
 | 0,x,_=>x=.map (some nb)
 | 1,x,_=>x=.int .i64 t0
 | 2,x,_=>x=ut
 | 3,x,_=>x=.pointer (some ⟨rb,0,none⟩)
 | 4,x,_=>x=.pointer (some ⟨rb,0,none⟩)
 | 5,x,_=>x=.pointer (some ⟨rb,3,none⟩)
 | 6,x,_=>x=.map (some mb)
 | 7,x,_=>x=.int .i64 B
 | 8,x,_=>x=ub
 | 9,x,_=>x=.pointer (some ⟨b3,1,none⟩)
 | 10,x,_=>x=wv
 | 11,x,_=>x=.pointer (some wa)
 | 12,x,_=>x=.int .i64 k
 | 13,x,_=>x=.int .i64 o
 | 14,x,H=>MatN H1 H x K
 | 15,x,H=>∃ b u,x=.slice (some ⟨b,0,none⟩) 1 1∧H b=some (.cells ⟨[u]⟩ 23 (0,0))∧MatH H u K
 | 16,x,H=>OutN H1 H x R
 | 17,x,H=>OutN H1 H x R
 | 18,x,H=>(R.1=[]∧x=.slice none 0 0)∨MatN H1 H x R.1
 | 19,x,_=>x=.int .i64 R.2
 | 20,x,H=>(R.1=[]∧x=.slice none 0 0)∨MatN H1 H x R.1
 | 21,x,_=>x=.int .i64 R.2
 | _,_,_=>True
theorem MSp.up {H1 H H' : PH} {nb rb b3 mb:Nat} {ut ub wv:Value} {wa:Addr} {t0 B k o i:Nat} {K:Mx} {R:Mx × Int} {x:Value} (h:MSp H1 nb rb b3 mb ut ub wv wa t0 B k o K R i x H) (hs:Sub H H'):MSp H1 nb rb b3 mb ut ub wv wa t0 B k o K R i x H':=by
 unfold MSp at *
 split at h
 all_goals first
  | exact h
  | exact MatN.up h hs
  | exact OutN.up h hs
  | exact h.imp id fun h=>MatN.up h hs
  | (obtain⟨b,u,h1,h2,h3⟩:=h;exact⟨b,u,h1,hs _ _ h2,h3.up hs⟩)
structure MI (H1 O1 : PH) (S:Nat→Value→PH→Prop) (L:Nat→Bool) (V:Nat→Value) (H O:PH):Prop where
 sub:Sub H1 H
 own:O=O1
 sp:∀ i,L i=true→S i (V i) H
theorem MI.step {H1 O1 : PH} {S:Nat→Value→PH→Prop} (up:∀ {i x H H'},S i x H→Sub H H'→S i x H') {L:Nat→Bool} {V:Nat→Value} {H O H':PH} (h:MI H1 O1 S L V H O) {i:Nat} {v:Value} (hs:Sub H H') (hv:S i v H'):MI H1 O1 S (setL L i) (setV V i v) H' O:=by
 refine⟨h.sub.trans hs,h.own,fun k hk=>?_⟩
 by_cases e:k=i
 ·subst e
  simp only[setV,beq_self_eq_true,cond_true]
  exact hv
 ·have e2:(k == i)=false:=by simpa using e
  simp only[setV,e2,cond_false]
  simp only[setL,e2,Bool.false_or] at hk
  exact up (h.sp k hk) hs
set_option maxHeartbeats 8000000 in
theorem e104 (H0 H O : PH) (h00:Sub H0 H) (rb mb:Nat) (gs f:Value) (us:List Value) (l:List Mx) (n q k b:Nat) (hn:n≤4) (hq:q < 5) (hk:k < n) (hbq:b < q) (g:Gt) (hgw:g.ws=[(k:Int)]) (hgb:g.bit=b) (w:Value) (hw:IntsC H w g.ws) (hl:l.length=2 ^ q) (hr:AllR (2 ^ n) l)
 (hO1:O rb=some (.cells ⟨[.int .i64 n,.int .i64 q,gs,.map (some mb),f]⟩ 108 (0,0))) (hO2:O mb=some (.map (entsM us) us.length)) (hm:MapN H0 H us l) :
 Cl Tryz.prog 104 [.pointer (some ⟨rb,0,none⟩),gv g w] H O fun r H' O'=>r=.int .i64 (measL l k b).2∧((measL l k b).2=0→∃ mb' us',O' rb=some (.cells ⟨[.int .i64 n,.int .i64 q,gs,.map (some mb'),f]⟩ 108 (0,0))∧O' mb'=some (.map (entsM us') us'.length)∧MapN H0 H' us' (measL l k b).1):=by
 have hN:=pow_le16 hn
 have hQ:2 ^ q≤16:=Nat.pow_le_pow_right (by decide) (by omega:q≤4)
 have hN0:0 < 2 ^ n:=Nat.pow_pos (by decide)
 obtain⟨wb0,wc0,rfl,hwc,hwi⟩:=id hw
 obtain⟨wb,wo,rfl,hwr⟩:=IntsH.at hwi (i:=0) (by rw[hgw];simp)
 have hg0:(g.ws[0]'(by rw[hgw];simp))=(k:Int):=by simp[hgw]
 rw[hg0] at hwr
 have hlw:g.ws.length=1:=by rw[hgw]<;>rfl
 rw[hlw]
 refine Cl_of (pol:=polMs) Γok Tryz.func104 (by kernel_rfl) rfl ?_
 conv=>whnf
 intro b3 hb3 hOb3
 conv=>whnf
 rw[hgb]
 have s3:=sub_ins H (.cells ⟨[.int .i64 g.kind,.slice (some ⟨wb,wo,none⟩) 1 wc0,.int .i64 b,.int .i64 g.cond]⟩ 42 (0,0)) hb3
 have hb3':=ins_same H b3 (.cells ⟨[.int .i64 g.kind,.slice (some ⟨wb,wo,none⟩) 1 wc0,.int .i64 b,.int .i64 g.cond]⟩ 42 (0,0))
 replace hm:=hm.up s3
 replace h00:=h00.trans s3
 generalize ins H b3 (.cells ⟨[.int .i64 g.kind,.slice (some ⟨wb,wo,none⟩) 1 wc0,.int .i64 b,.int .i64 g.cond]⟩ 42 (0,0))=H1 at s3 hb3' hm h00 ⊢
 intro nb hnb hOnb
 conv=>whnf
 have hrn:rb ≠ nb:=fun e=>by rw[e,hOnb] at hO1;cases hO1
 have hmn:mb ≠ nb:=fun e=>by rw[e,hOnb] at hO2;cases hO2
 have hR:∀ x:Obj,ins O nb x rb=some (.cells ⟨[.int .i64 n,.int .i64 q,gs,.map (some mb),f]⟩ 108 (0,0)):=fun x=>(ins_ne _ _ hrn).trans hO1
 have hM:∀ x:Obj,ins O nb x mb=some (.map (entsM us) us.length):=fun x=>(ins_ne _ _ hmn).trans hO2
 refine⟨_,⟨rfl,rfl,_,_,_,.inr (hR _),rfl⟩,?_⟩
 conv=>whnf
 rw[shl_nat (by omega)]
 refine W_loop (pol:=polMs) Γok (Nat × PH × List Value) (fun i=>i.1≤2 ^ q∧Sub H1 i.2.1∧MapN H0 i.2.1 i.2.2 (List.replicate i.1 (zeroM (2 ^ n)))) (fun i=>2 ^ q - i.1) (fun i=>[(19,.v (.int .i64 i.1))]) (fun _=>[]) (fun i=>i.2.1) (fun i=>ins O nb (.map (entsM i.2.2) i.2.2.length)) ⟨(0,H1,[]),⟨by simp,Sub.refl _,MapN.nil _ _⟩,rfl,rfl,?_⟩ ?_
 ·conv=>whnf
  repeat (refine⟨rfl,?_⟩;conv=>whnf)
  exact trivial
 rintro ⟨i,H2,us1⟩ ⟨g1,g2,g3⟩
 dsimp only at g1 g2 g3
 conv=>whnf
 refine if_intro (fun hc=>?_) (fun hc=>?_)
 ·have hi:i < 2 ^ q:=by
   have:=of_decide_eq_true hc
   omega
  have hui:us1.length=i:=by rw[g3.1];simp
  subst hui
  conv=>whnf
  refine⟨_,⟨rfl,rfl,_,_,_,.inr (hR _),rfl⟩,?_⟩
  conv=>whnf
  rw[shl_nat (by omega)]
  refine (Cl.newM (by omega) (by omega) ((e66 (2 ^ n) (by omega) H2).mono fun _ _ _ _ h=>h.2)).use fun u Hx sx hr=>?_
  obtain⟨_,hnew⟩:=hr
  conv=>whnf
  refine newM (ins_same _ _ _) ?_
  conv=>whnf
  refine⟨(us1.length+1,Hx,us1++[u]),⟨hi,g2.trans sx,?_⟩,by dsimp only;omega,?_⟩
  ·dsimp only
   rw[List.replicate_succ']
   exact g3.snoc (h00.trans g2) sx hnew
  refine⟨rfl,(ins_ins _ _ _ _).symm,?_⟩
  conv=>whnf
  repeat (refine⟨rfl,?_⟩;conv=>whnf)
  refine⟨by show En.v (.int .i64 (IntKind.i64.wrap (us1.length+1)))=_;rw[wrap_id (by omega) (by omega)]<;>rfl,?_⟩
  conv=>whnf
  repeat (refine⟨rfl,?_⟩;conv=>whnf)
  exact trivial
 have hi:i=2 ^ q:=by
  have:=of_decide_eq_false hc
  omega
 subst hi
 rw[← now_zero hq hbq hl] at g3
 dsimp only
 conv=>whnf
 refine⟨_,⟨rfl,rfl,_,_,_,.inr (hR _),rfl⟩,?_⟩
 conv=>whnf
 rw[shl_nat (by omega)]
 refine W_loop (pol:=polMs) Γok (Nat × PH × List Value) (fun i=>i.1≤2 ^ q∧Sub H1 i.2.1∧MapN H0 i.2.1 i.2.2 (nowL (2 ^ n) l k b i.1 0)∧∀ t,t < l.length→cam2 b t i.1 0=true→(measC l k b t).2=0) (fun i=>2 ^ q - i.1) (fun i=>[(38,.v (.int .i64 i.1))]) (fun _=>[]) (fun i=>i.2.1) (fun i=>ins O nb (.map (entsM i.2.2) i.2.2.length)) ⟨(0,H2,us1),⟨by simp,g2,g3,fun t ht h=>by rw[(cam_zero b (by omega) t (by omega)).2] at h;cases h⟩,rfl,rfl,?_⟩ ?_
 ·conv=>whnf
  repeat (refine⟨rfl,?_⟩;conv=>whnf)
  exact trivial
 rintro ⟨B,H3,us2⟩ ⟨p1,p2,p3,p4⟩
 dsimp only at p1 p2 p3 p4
 conv=>whnf
 refine if_intro (fun hc=>?_) (fun hc=>?_)
 ·have hB:B < 2 ^ q:=by
   have:=of_decide_eq_true hc
   omega
  conv=>whnf
  refine W_loop (pol:=polMs) Γok (Nat × PH × List Value) (fun i=>i.1≤2∧Sub H1 i.2.1∧MapN H0 i.2.1 i.2.2 (nowL (2 ^ n) l k b B i.1)∧∀ t,t < l.length→cam2 b t B i.1=true→(measC l k b t).2=0) (fun i=>2 - i.1) (fun i=>[(41,.v (.int .i64 i.1))]) (fun _=>[]) (fun i=>i.2.1) (fun i=>ins O nb (.map (entsM i.2.2) i.2.2.length)) ⟨(0,H3,us2),⟨by simp,p2,p3,p4⟩,rfl,rfl,?_⟩ ?_
  ·conv=>whnf
   repeat (refine⟨rfl,?_⟩;conv=>whnf)
   exact trivial
  rintro ⟨o,H4,us3⟩ ⟨q1,q2,q3,q4⟩
  dsimp only at q1 q2 q3 q4
  conv=>whnf
  refine if_intro (fun hc=>?_) (fun hc=>?_)
  ·have ho:o < 2:=by
    have:=of_decide_eq_true hc
    omega
   have hti:=to_int B (by omega) b (by omega) o ho
   have htl:=to_lt q hq b hbq B hB o ho
   obtain⟨nst1,nst2⟩:=now_step (N:=2 ^ n) (k:=k) hq hbq hl hr hB ho
   conv=>whnf
   refine W_draw (pol:=polMs) Γok mixes [(0,.pendO),(1,.pendO),(2,.pendO),(3,.pendO),(4,.pendO),(5,.pendO),(6,.pendO),(7,.pendO),(8,.pendO),(9,.pendO),(10,.pendO)] 86 (by kernel_rfl) rfl ?_
   conv=>whnf
   unfold orI andNotI shlI at hti
   rw[hti]
   generalize hT:toB b B o=T at htl nst1 nst2 ⊢
   obtain⟨ut,hut,hmt⟩:=q3.at (b:=T) (by rw[now_len,hl];exact htl)
   have hget:(nowL (2 ^ n) l k b B o)[T]'(by rw[now_len,hl];exact htl)=nowAt (2 ^ n) l k b B o T:=by
    have:=now_get (N:=2 ^ n) (l:=l) (k:=k) (b:=b) (B:=B) (o:=o) (t:=T) (by rw[hl];exact htl)
    rw[List.getElem?_eq_getElem (by rw[now_len,hl];exact htl)] at this
    exact Option.some.inj this
   rw[hget] at hmt
   obtain⟨ub,hub,hmb⟩:=hm.at (b:=B) (by rw[hl];exact hB)
   have hgetB:l[B]'(by rw[hl];exact hB)=l.getD B []:=by rw[List.getD_eq_getElem?_getD,List.getElem?_eq_getElem (by rw[hl];exact hB)]<;>rfl
   rw[hgetB] at hmb
   obtain⟨r1,r2,r3⟩:=hr.at (i:=B) (by rw[hl];exact hB)
   obtain⟨k1,k2,k3,_⟩:=kept_facts r1 r2 r3 k o
   have hA:(nowAt (2 ^ n) l k b B o T).length < 1000000:=by
    unfold nowAt
    split
    ·exact res_len (by omega) (by rw[kept_shape,(hr.at (i:=clB T b) (by have:=(low_lt q hq b hbq T htl).1;omega)).2.1];omega)
    split
    ·obtain⟨y1,y2,y3⟩:=hr.at (i:=clB T b) (by have:=(low_lt q hq b hbq T htl).1;omega)
     rw[kept_shape,y2];omega
    ·unfold zeroM;rw[List.length_replicate];omega
   have hb3q:=q2 _ _ hb3'
   conv=>whnf
   refine W_free (pol:=polMs) Γok mixes 86 (by kernel_rfl) rfl (MI H4 (ins O nb (.map (entsM us3) us3.length)) (MSp H4 nb rb b3 mb ut ub (.slice (some ⟨wb,wo,none⟩) 1 wc0) ⟨wb,wo+0*1,none⟩ T B k o (keptM (l.getD B []) k o) (addedM (nowAt (2 ^ n) l k b B o T) [keptM (l.getD B []) k o]))) ⟨Sub.refl _,rfl,fun i h=>(by cases h)⟩ ?_ ?_
   ·intro i op ho' L V H' O' hI hLi hsee
    have hi:i < 22:=(List.getElem?_eq_some_iff.1 ho').1
    have get:∀ j,seesB _ op j=true→MSp H4 nb rb b3 mb ut ub (.slice (some ⟨wb,wo,none⟩) 1 wc0) ⟨wb,wo+0*1,none⟩ T B k o (keptM (l.getD B []) k o) (addedM (nowAt (2 ^ n) l k b B o T) [keptM (l.getD B []) k o]) j (V j) H':=fun j h=>hI.sp j (hsee j h)
    have stp:=fun {H'':PH} {v:Value} (hs:Sub H' H'') hv=>MI.step (S:=MSp H4 nb rb b3 mb ut ub (.slice (some ⟨wb,wo,none⟩) 1 wc0) ⟨wb,wo+0*1,none⟩ T B k o (keptM (l.getD B []) k o) (addedM (nowAt (2 ^ n) l k b B o T) [keptM (l.getD B []) k o])) (i:=i) (v:=v) (fun h s=>MSp.up h s) hI hs hv
    have hO':=hI.own
    subst hO'
    rcases (show i=0∨i=1∨i=2∨i=3∨i=4∨i=5∨i=6∨i=7∨i=8∨i=9∨i=10∨i=11∨i=12∨i=13∨i=14∨i=15∨i=16∨i=17∨i=18∨i=19∨i=20∨i=21 by omega) with rfl | rfl | rfl | rfl | rfl | rfl | rfl | rfl | rfl | rfl | rfl | rfl | rfl | rfl | rfl | rfl | rfl | rfl | rfl | rfl | rfl | rfl
    ·cases ho'
     conv=>whnf
     exact⟨⟨_,rfl⟩,_,rfl,stp (Sub.refl _) rfl⟩
    ·cases ho'
     conv=>whnf
     exact⟨⟨_,rfl⟩,_,rfl,stp (Sub.refl _) rfl⟩
    ·cases ho'
     have h0:V 0=.map (some nb):=get 0 (by kernel_rfl)
     have h1:V 1=.int .i64 T:=get 1 (by kernel_rfl)
     conv=>whnf
     rw[h0,h1]
     refine lookM (.inr (ins_same _ _ _)) hut fun z=>?_
     conv=>whnf
     exact⟨⟨_,rfl⟩,_,rfl,stp (Sub.refl _) rfl⟩
    ·cases ho'
     conv=>whnf
     exact⟨⟨_,rfl⟩,_,rfl,stp (Sub.refl _) rfl⟩
    ·cases ho'
     have h3:V 3=.pointer (some ⟨rb,0,none⟩):=get 3 (by kernel_rfl)
     conv=>whnf
     rw[h3]
     conv=>whnf
     exact⟨⟨_,rfl⟩,_,rfl,stp (Sub.refl _) rfl⟩
    ·cases ho'
     have h4:V 4=.pointer (some ⟨rb,0,none⟩):=get 4 (by kernel_rfl)
     conv=>whnf
     rw[h4]
     conv=>whnf
     exact⟨⟨_,rfl⟩,_,rfl,stp (Sub.refl _) rfl⟩
    ·cases ho'
     have h5:V 5=.pointer (some ⟨rb,3,none⟩):=get 5 (by kernel_rfl)
     conv=>whnf
     rw[h5]
     conv=>whnf
     refine⟨[.map (some mb)],⟨rfl,rfl,_,_,_,.inr (hR _),rfl⟩,?_⟩
     conv=>whnf
     exact⟨⟨_,rfl⟩,_,rfl,stp (Sub.refl _) rfl⟩
    ·cases ho'
     conv=>whnf
     exact⟨⟨_,rfl⟩,_,rfl,stp (Sub.refl _) rfl⟩
    ·cases ho'
     have h6:V 6=.map (some mb):=get 6 (by kernel_rfl)
     have h7:V 7=.int .i64 B:=get 7 (by kernel_rfl)
     conv=>whnf
     rw[h6,h7]
     refine lookM (.inr (hM _)) hub fun z=>?_
     conv=>whnf
     exact⟨⟨_,rfl⟩,_,rfl,stp (Sub.refl _) rfl⟩
    ·cases ho'
     conv=>whnf
     exact⟨⟨_,rfl⟩,_,rfl,stp (Sub.refl _) rfl⟩
    ·cases ho'
     have h9:V 9=.pointer (some ⟨b3,1,none⟩):=get 9 (by kernel_rfl)
     conv=>whnf
     rw[h9]
     conv=>whnf
     refine⟨[.slice (some ⟨wb,wo,none⟩) 1 wc0],⟨rfl,rfl,_,_,_,.inl (hI.sub _ _ hb3q),rfl⟩,?_⟩
     conv=>whnf
     exact⟨⟨_,rfl⟩,_,rfl,stp (Sub.refl _) rfl⟩
    ·cases ho'
     have h10:V 10=.slice (some ⟨wb,wo,none⟩) 1 wc0:=get 10 (by kernel_rfl)
     conv=>whnf
     rw[h10]
     conv=>whnf
     exact⟨⟨_,rfl⟩,_,rfl,stp (Sub.refl _) rfl⟩
    ·cases ho'
     have h11:V 11=.pointer (some ⟨wb,wo+0*1,none⟩):=get 11 (by kernel_rfl)
     conv=>whnf
     rw[h11]
     conv=>whnf
     refine⟨_,hwr _ _ (s3.trans (q2.trans hI.sub)),?_⟩
     conv=>whnf
     exact⟨⟨_,rfl⟩,_,rfl,stp (Sub.refl _) rfl⟩
    ·cases ho'
     conv=>whnf
     exact⟨⟨_,rfl⟩,_,rfl,stp (Sub.refl _) rfl⟩
    ·cases ho'
     have h8:V 8=ub:=get 8 (by kernel_rfl)
     have h12:V 12=.int .i64 k:=get 12 (by kernel_rfl)
     have h13:V 13=.int .i64 o:=get 13 (by kernel_rfl)
     conv=>whnf
     rw[h8,h12,h13]
     refine (Cl.newM (by omega) (by omega) (e85 (l.getD B []) k o r1 (2 ^ n) hN r2 r3 (by omega) H' ub (hmb.up (q2.trans hI.sub)))).use fun v5 H5 s5 hv5=>?_
     obtain⟨_,hv5⟩:=hv5
     conv=>whnf
     exact⟨⟨_,rfl⟩,_,rfl,stp s5 (hv5.base hI.sub)⟩
    ·cases ho'
     have h14:MatN H4 H' (V 14) (keptM (l.getD B []) k o):=get 14 (by kernel_rfl)
     obtain⟨vb5,vc5,e14⟩:=MatH.sl h14.mat
     have h14m:=h14.mat
     rw[e14] at h14m
     conv=>whnf
     rw[e14]
     conv=>whnf
     intro b5 hb5 hO5
     have s5:=sub_ins H' (.cells ⟨[.slice vb5 (keptM (l.getD B []) k o).length vc5]⟩ 23 (0,0)) hb5
     exact⟨⟨_,rfl⟩,_,rfl,stp s5 ⟨b5,_,rfl,ins_same _ _ _,h14m.up s5⟩⟩
    ·cases ho'
     have h2:V 2=ut:=get 2 (by kernel_rfl)
     obtain⟨b5,u5,e15,h15,h15'⟩:∃ b u,V 15=.slice (some ⟨b,0,none⟩) 1 1∧H' b=some (.cells ⟨[u]⟩ 23 (0,0))∧MatH H' u (keptM (l.getD B []) k o):=get 15 (by kernel_rfl)
     conv=>whnf
     rw[h2,e15]
     refine (e86n (nowAt (2 ^ n) l k b B o T) [keptM (l.getD B []) k o] hA (by simp) (by intro x hx;cases hx with | head=>rw[kept_shape,r2];omega | tail _ h=>cases h) H' ut _ (hmt.up hI.sub) (one_mats h15 h15')).use fun v5 H5 s5 hv5=>?_
     obtain⟨_,hv5⟩:=hv5
     conv=>whnf
     exact⟨⟨_,rfl⟩,_,rfl,stp s5 (hv5.base hI.sub)⟩
    ·cases ho'
     have h16:OutN H4 H' (V 16) (addedM (nowAt (2 ^ n) l k b B o T) [keptM (l.getD B []) k o]):=get 16 (by kernel_rfl)
     conv=>whnf
     exact⟨⟨_,rfl⟩,_,rfl,stp (Sub.refl _) h16⟩
    ·cases ho'
     obtain⟨u5,e17,h17⟩:OutN H4 H' (V 17) (addedM (nowAt (2 ^ n) l k b B o T) [keptM (l.getD B []) k o]):=get 17 (by kernel_rfl)
     conv=>whnf
     rw[e17]
     conv=>whnf
     exact⟨⟨_,rfl⟩,_,rfl,stp (Sub.refl _) h17⟩
    ·cases ho'
     obtain⟨u5,e17,h17⟩:OutN H4 H' (V 17) (addedM (nowAt (2 ^ n) l k b B o T) [keptM (l.getD B []) k o]):=get 17 (by kernel_rfl)
     conv=>whnf
     rw[e17]
     conv=>whnf
     exact⟨⟨_,rfl⟩,_,rfl,stp (Sub.refl _) rfl⟩
    ·cases ho'
     have h18:((addedM (nowAt (2 ^ n) l k b B o T) [keptM (l.getD B []) k o]).1=[]∧V 18=.slice none 0 0)∨MatN H4 H' (V 18) (addedM (nowAt (2 ^ n) l k b B o T) [keptM (l.getD B []) k o]).1:=get 18 (by kernel_rfl)
     conv=>whnf
     exact⟨⟨_,rfl⟩,_,rfl,stp (Sub.refl _) h18⟩
    ·cases ho'
     have h19:V 19=.int .i64 (addedM (nowAt (2 ^ n) l k b B o T) [keptM (l.getD B []) k o]).2:=get 19 (by kernel_rfl)
     conv=>whnf
     exact⟨⟨_,rfl⟩,_,rfl,stp (Sub.refl _) h19⟩
   ·intro L V H' O' hI hall
    have hO':=hI.own
    subst hO'
    have h20:=hI.sp 20 (hall 20 (by decide))
    have h21:V 21=.int .i64 (addedM (nowAt (2 ^ n) l k b B o T) [keptM (l.getD B []) k o]).2:=hI.sp 21 (hall 21 (by decide))
    have s4':=hI.sub
    conv=>whnf
    rw[h21]
    conv=>whnf
    refine if_intro (fun he=>?_) (fun he=>?_)
    ·have he:(addedM (nowAt (2 ^ n) l k b B o T) [keptM (l.getD B []) k o]).2 ≠ 0:=by simpa using he
     cases hbit:B.testBit b with
     | false=>
      rw[nst1,hbit,if_neg (by simp)] at he
      exact absurd (rfl:((keptM (l.getD B []) k o,(0:Int)):Mx × Int).2=0) he
     | true=>
      rw[hbit,if_pos rfl] at nst1
      rw[nst1] at he
      obtain⟨w1,w2⟩:=meas_bad hq hbq hl hr (by omega) he
      conv=>whnf
      refine⟨?_,fun h=>?_⟩
      ·show V 21=_
       rw[h21,nst1,w1,w2]
      ·rw[w1] at h
       cases h
    have he:(addedM (nowAt (2 ^ n) l k b B o T) [keptM (l.getD B []) k o]).2=0:=by simpa using he
    have hst:=nst2 he
    have hnow:MatN H4 H' (V 20) (addedM (nowAt (2 ^ n) l k b B o T) [keptM (l.getD B []) k o]).1:=by
     rcases h20 with⟨e,_⟩ | h
     ·exfalso
      rw[nst1] at e he
      cases hbit:B.testBit b with
      | false=>
       rw[hbit,if_neg (by simp)] at e
       have e:keptM (l.getD B []) k o=[]:=e
       rw[e] at k2
       simp at k2
       omega
      | true=>
       rw[hbit,if_pos rfl] at e he
       obtain⟨_,_,_,_,e2,_⟩:=add_errs0 (show (AddMF _ _).2=0 from he)
       have e:(AddMF (keptM (l.getD (clB T b) []) k (bitN T b)) (keptM (l.getD (clB T b+2 ^ b) []) k (bitN T b))).1=[]:=e
       have e3:=congrArg List.length e
       rw[e2,gridM_len,kept_shape,(hr.at (i:=clB T b) (by have:=(low_lt q hq b hbq T htl).1;omega)).2.1] at e3
       simp at e3
       try omega
     ·exact h
    conv=>whnf
    refine putM (us:=us3) (clk:=us3.length) (k:=T) (ins_same _ _ _) (by rw[q3.1,now_len];omega) ?_
    conv=>whnf
    refine⟨(o+1,H',us3.set T (V 20)),⟨ho,q2.trans s4',?_,?_⟩,by dsimp only;omega,?_⟩
    ·dsimp only
     rw[hst]
     exact q3.set (h00.trans q2) s4' hnow
    ·dsimp only
     intro t ht hcam
     by_cases hne:t=T
     ·subst hne
      cases hbit:B.testBit b with
      | false=>
       have:=(cam_low B (by omega) b (by omega) o ho hbit).2.2.2.1
       rw[hT,hcam] at this
       cases this
      | true=>
       rw[nst1,hbit,if_pos rfl] at he
       exact he
     ·rw[(cam_other B (by omega) b (by omega) o ho t (by omega) (by rw[hT];exact hne)).2] at hcam
      exact q4 t ht hcam
    refine⟨rfl,?_,?_⟩
    ·dsimp only
     rw[List.length_set]
     exact (ins_ins _ _ _ _).symm
    conv=>whnf
    repeat (refine⟨rfl,?_⟩;conv=>whnf)
    refine⟨by show En.v (.int .i64 (IntKind.i64.wrap (o+1)))=_;rw[wrap_id (by omega) (by omega)]<;>rfl,?_⟩
    conv=>whnf
    repeat (refine⟨rfl,?_⟩;conv=>whnf)
    exact trivial
  have ho:o=2:=by
   have:=of_decide_eq_false hc
   omega
  subst ho
  rw[now_next hq hbq hl hB] at q3
  conv=>whnf
  refine⟨(B+1,H4,us3),⟨hB,q2,q3,fun t ht h=>q4 t ht (by rw[(cam_next B (by omega) b (by omega) t (by omega)).2];exact h)⟩,by dsimp only;omega,?_⟩
  refine⟨rfl,rfl,?_⟩
  conv=>whnf
  repeat (refine⟨rfl,?_⟩;conv=>whnf)
  refine⟨by show En.v (.int .i64 (IntKind.i64.wrap (B+1)))=_;rw[wrap_id (by omega) (by omega)]<;>rfl,?_⟩
  conv=>whnf
  repeat (refine⟨rfl,?_⟩;conv=>whnf)
  exact trivial
 have hB:B=2 ^ q:=by
  have:=of_decide_eq_false hc
  omega
 subst hB
 have hok:=meas_ok (l:=l) (k:=k) (b:=b) fun t ht=>p4 t ht (low_lt q hq b hbq t (by omega)).2.2
 rw[now_done hq hbq hl] at p3
 dsimp only
 conv=>whnf
 refine⟨_,_,hR _,(by show 4≤5;decide),?_⟩
 conv=>whnf
 rw[hok]
 refine⟨rfl,fun _=>⟨nb,us2,ins_same _ _ _,(ins_ne _ _ (Ne.symm hrn)).trans (ins_same _ _ _),p3⟩⟩
def polGa : Tmp→Pol:=fun | 3=>.imm | 70=>.imm | _=>.loc
def gateC (g : Gt) (n:Int) (l:List Mx) (t:Nat):Mx × Int:=if 0 < g.cond∧t.testBit (g.cond - 1).toNat=false then (l.getD t [],0) else if g.kind=14 then resetR (l.getD t []) (g.ws.getD 0 0) n else aroundM (l.getD t []) (unitG g n)
def gateL (l : List Mx) (g:Gt) (n:Int):List Mx × Int:=if firstErr ((List.range l.length).map fun t=>(gateC g n l t).2) ≠ 0 then ([],firstErr ((List.range l.length).map fun t=>(gateC g n l t).2)) else ((List.range l.length).map fun t=>(gateC g n l t).1,0)
theorem around_right {m u : Mx} {N:Nat} (hn:0 < N∧N≤64) (l0:m.length=N) (w0:wideM m=N) (l1:u.length=N) (w1:wideM u=N) (he:(aroundM m u).2=0):checkMF (aroundM m u).1=0∧(aroundM m u).1.length=N∧wideM (aroundM m u).1=N:=by
 unfold aroundM thenM at he ⊢
 by_cases h1:(MulMF u m).2 ≠ 0
 ·rw[if_pos h1] at he;exact absurd he h1
 rw[if_neg h1] at he ⊢
 have h1:(MulMF u m).2=0:=by simpa using h1
 obtain⟨cu,_⟩:=mul_errs0 h1
 obtain⟨p1,p2,p3,p4⟩:=mul_ex hn l1 w1 l0 w0 h1
 obtain⟨ed,cd⟩:=dag_ok cu
 have dl:(DaggerMF u).1.length=N:=by rw[ed,w1];exact gridM_len _ _ _
 have dw:wideM (DaggerMF u).1=N:=by rw[ed,w1,l1];exact (grid_right _ hn.1 hn.2 hn.1 hn.2).2
 obtain⟨q1,q2,q3,q4⟩:=mul_ex hn p2 p3 dl dw he
 exact⟨q1,q2,q3⟩
theorem add_right {m o : Mx} {N:Nat} (hn:0 < N∧N≤64) (l0:m.length=N) (w0:wideM m=N) (he:(AddMF m o).2=0):checkMF (AddMF m o).1=0∧(AddMF m o).1.length=N∧wideM (AddMF m o).1=N:=by
 obtain⟨c1,c2,e1,e2,e,h0⟩:=add_errs0 he
 rw[l0,w0] at e h0
 have key:∀ i k,i < N→k < N→IsL (addAt m o i k).1:=fun i k hi hk=>by
  have h:=h0 i k hi hk
  unfold addAt at h ⊢
  rw[Add_eq] at h ⊢
  exact Add_L h
 obtain⟨g1,g2⟩:=grid_check (F:=addAt m o) hn.1 hn.2 fun i k hi hk=>(key i k hi hk).ok
 rw[e]
 exact⟨g1,gridM_len _ _ _,g2⟩
theorem reset_right {m : Mx} {n k:Nat} (hn:n≤4) (hk:k < n) (hc:checkMF m=0) (l0:m.length=2 ^ n) (w0:wideM m=2 ^ n) (he:(resetR m k n).2=0):checkMF (resetR m k n).1=0∧(resetR m k n).1.length=2 ^ n∧wideM (resetR m k n).1=2 ^ n:=by
 have hN:=pow_le16 hn
 have hN0:0 < 2 ^ n:=Nat.pow_pos (by decide)
 unfold resetR at he ⊢
 rw[Int.toNat_natCast] at he ⊢
 unfold thenM at he ⊢
 obtain⟨c1,l1,w1,_⟩:=kept_facts hc l0 w0 k 1
 obtain⟨c0,l2,w2,_⟩:=kept_facts hc l0 w0 k 0
 split at he
 ·rename_i h;exact absurd he h
 rename_i h
 rw[if_neg h]
 exact add_right ⟨hN0,by omega⟩ l2 w2 he
theorem gateC_right {g : Gt} {n:Nat} {l:List Mx} {t:Nat} (hn:n≤4) (f14:g.kind=14→∃ k:Nat,g.ws=[(k:Int)]∧k < n) (fg:g.kind ≠ 14→gErr g n=0) (hr:AllR (2 ^ n) l) (ht:t < l.length) (he:(gateC g n l t).2=0):checkMF (gateC g n l t).1=0∧(gateC g n l t).1.length=2 ^ n∧wideM (gateC g n l t).1=2 ^ n:=by
 have hN:=pow_le16 hn
 have hN0:0 < 2 ^ n:=Nat.pow_pos (by decide)
 have r:=hr.at ht
 unfold gateC at he ⊢
 split at he
 ·rename_i h;rw[if_pos h];exact r
 rename_i h
 rw[if_neg h]
 split at he
 ·rename_i h14
  rw[if_pos h14]
  obtain⟨k,e,hk⟩:=f14 h14
  rw[show g.ws.getD 0 0=(k:Int) by rw[e];rfl] at he ⊢
  exact reset_right hn hk r.1 r.2.1 r.2.2 he
 ·rename_i h14
  rw[if_neg h14]
  obtain⟨m1,m2⟩:=made_err g (n:=n) (by omega)
  obtain⟨_,u1,u2⟩:=m2 (fg h14)
  exact around_right ⟨hN0,by omega⟩ r.2.1 r.2.2 u1 u2 he
theorem gateL_right {g : Gt} {n:Nat} {l:List Mx} (hn:n≤4) (f14:g.kind=14→∃ k:Nat,g.ws=[(k:Int)]∧k < n) (fg:g.kind ≠ 14→gErr g n=0) (hr:AllR (2 ^ n) l) (he:(gateL l g n).2=0):(gateL l g n).1.length=l.length∧AllR (2 ^ n) (gateL l g n).1:=by
 unfold gateL at he ⊢
 split at he
 ·rename_i h;exact absurd he h
 rename_i h
 rw[if_neg h]
 have h0:=firstErr_zero (by simpa using h)
 refine⟨by simp,fun m hm=>?_⟩
 obtain⟨t,ht,rfl⟩:=List.mem_map.1 hm
 exact gateC_right hn f14 fg hr (List.mem_range.1 ht) (h0 _ (List.mem_map.2 ⟨t,ht,rfl⟩))
theorem measL_right {N q : Nat} {l:List Mx} {k b:Nat} (hN:0 < N∧N≤64) (hq:q < 5) (hb:b < q) (hl:l.length=2 ^ q) (hr:AllR N l) (he:(measL l k b).2=0):(measL l k b).1.length=l.length∧AllR N (measL l k b).1:=by
 unfold measL at he ⊢
 split at he
 ·rename_i h;exact absurd he h
 rename_i h
 rw[if_neg h]
 have h0:=firstErr_zero (by simpa using h)
 refine⟨by simp,fun m hm=>?_⟩
 obtain⟨t,ht,rfl⟩:=List.mem_map.1 hm
 have htl:=List.mem_range.1 ht
 have r:=hr.at (i:=clB t b) (by have:=(low_lt q hq b hb t (by omega)).1;omega)
 obtain⟨k1,k2,k3,_⟩:=kept_facts r.1 r.2.1 r.2.2 k (bitN t b)
 exact add_right hN k2 k3 (h0 _ (List.mem_map.2 ⟨t,ht,rfl⟩))
def gatedL (g : Gt) (n:Int) (l:List Mx) (B:Nat):List Mx:=(List.range l.length).map fun t=>if t < B then (gateC g n l t).1 else l.getD t []
theorem gatedL_len (g : Gt) (n:Int) (l:List Mx) (B:Nat):(gatedL g n l B).length=l.length:=by simp[gatedL]
theorem gatedL_zero (g : Gt) (n:Int) (l:List Mx):gatedL g n l 0=l:=by
 unfold gatedL
 apply List.ext_getElem?
 intro t
 by_cases h:t < l.length
 ·rw[List.getElem?_map,List.getElem?_range h,List.getElem?_eq_getElem h]
  simp[List.getD_eq_getElem?_getD,List.getElem?_eq_getElem h]
 ·rw[List.getElem?_eq_none (by simp;omega),List.getElem?_eq_none (by omega)]
theorem gatedL_at {g : Gt} {n:Int} {l:List Mx} {B t:Nat} (ht:t < l.length):(gatedL g n l B)[t]?=some (if t < B then (gateC g n l t).1 else l.getD t []):=by
 unfold gatedL
 rw[List.getElem?_map,List.getElem?_range ht]
 rfl
theorem gatedL_step {g : Gt} {n:Int} {l:List Mx} {B:Nat} (hB:B < l.length):gatedL g n l (B+1)=(gatedL g n l B).set B (gateC g n l B).1:=by
 apply List.ext_getElem?
 intro t
 by_cases h:t < l.length
 ·rw[gatedL_at h]
  by_cases e:B=t
  ·subst e
   rw[List.getElem?_set_self (by rw[gatedL_len];exact h),if_pos (by omega)]
  ·rw[List.getElem?_set_ne e,gatedL_at h]
   by_cases h2:t < B
   ·rw[if_pos h2,if_pos (by omega)]
   ·rw[if_neg h2,if_neg (by omega)]
 ·rw[List.getElem?_eq_none (by rw[gatedL_len];omega),List.getElem?_eq_none (by rw[List.length_set,gatedL_len];omega)]
theorem gatedL_skip {g : Gt} {n:Int} {l:List Mx} {B:Nat} (hB:B < l.length) (h:gateC g n l B=(l.getD B [],0)):gatedL g n l (B+1)=gatedL g n l B:=by
 rw[gatedL_step hB]
 apply List.ext_getElem?
 intro t
 by_cases e:B=t
 ·subst e
  rw[List.getElem?_set_self (by rw[gatedL_len];exact hB),gatedL_at hB,if_neg (by omega),h]
 ·rw[List.getElem?_set_ne e]
theorem gate_ok {l : List Mx} {g:Gt} {n:Int} (h:∀ t,t < l.length→(gateC g n l t).2=0):gateL l g n=(gatedL g n l l.length,0):=by
 have e:firstErr ((List.range l.length).map fun t=>(gateC g n l t).2)=0:=firstErr_all fun e he=>by
  obtain⟨s,hs,rfl⟩:=List.mem_map.1 he
  exact h s (List.mem_range.1 hs)
 unfold gateL
 rw[e,if_neg (by simp)]
 refine congrArg (·,(0:Int)) ?_
 unfold gatedL
 refine List.map_congr_left fun t ht=>?_
 rw[if_pos (List.mem_range.1 ht)]
theorem firstErr_range {f : Nat→Int} {L B:Nat} (hB:B < L) (h0:∀ t,t < B→f t=0) (h:f B ≠ 0):firstErr ((List.range L).map f)=f B:=by
 have go:∀ d i,i+d=B→firstErr (((List.range L).drop i).map f)=f B:=by
  intro d
  induction d with
  | zero=>
   intro i hi
   rw[Nat.add_zero] at hi
   subst hi
   rw[firstErr_step f (by simpa using hB),List.getElem_range,if_neg h]
  | succ d ih=>
   intro i hi
   rw[firstErr_step f (i:=i) (by simp;omega),List.getElem_range,if_pos (h0 i (by omega))]
   exact ih (i+1) (by omega)
 exact go B 0 (by omega)
theorem gate_bad {l : List Mx} {g:Gt} {n:Int} {B:Nat} (hB:B < l.length) (h0:∀ t,t < B→(gateC g n l t).2=0) (h:(gateC g n l B).2 ≠ 0):gateL l g n=([],(gateC g n l B).2):=by
 unfold gateL
 rw[firstErr_range (f:=fun t=>(gateC g n l t).2) hB h0 h,if_pos h]
theorem ins_at {O : PH} {b:Nat} {x:Obj} (h:O b=some x):ins O b x=O:=by
 funext n
 by_cases e:n=b
 ·rw[e,h];exact ins_same _ _ _
 ·exact ins_ne _ _ e
theorem gate_facts {g : Gt} {n q:Nat} (hn:n≤4) (hq:q < 5) (h:gateErr g n q=0):(0≤g.cond∧g.cond≤q∧g.ws.length≤3)∧(g.kind=13→g.cond=0∧(∃ b:Nat,g.bit=b∧b < q)∧∃ k:Nat,g.ws=[(k:Int)]∧k < n)∧(g.kind=14→g.cond=0∧∃ k:Nat,g.ws=[(k:Int)]∧k < n)∧(g.kind ≠ 13→g.kind ≠ 14→gErr g n=0):=by
 unfold gateErr at h
 by_cases h1:arityF g.kind=0
 ·rw[if_pos h1] at h;cases h
 rw[if_neg h1] at h
 by_cases h2:(g.ws.length:Int) ≠ arityF g.kind
 ·rw[if_pos h2] at h;cases h
 rw[if_neg h2] at h
 by_cases h3:g.ws.all (inW n)=false
 ·rw[if_pos h3] at h;cases h
 rw[if_neg h3] at h
 by_cases h4:twiceF g.ws=true
 ·rw[if_pos h4] at h;cases h
 rw[if_neg h4] at h
 by_cases h5:(offF g.cond 0 q || (g.kind == 13 && offF g.bit 0 (q - 1)))=true
 ·rw[if_pos h5] at h;cases h
 rw[if_neg h5] at h
 by_cases h6:((decide (g.kind ≥ 13) && g.cond != 0) || (g.kind != 13 && g.bit != 0))=true
 ·rw[if_pos h6] at h;cases h
 have ha:=arityF_range g.kind
 simp only[offF,Bool.or_eq_true,Bool.and_eq_true,decide_eq_true_eq,beq_iff_eq,not_or,not_and,bne_iff_ne,ne_eq,Decidable.not_not] at h2 h5 h6
 have one:arityF g.kind=1→∃ k:Nat,g.ws=[(k:Int)]∧k < n:=fun e=>by
  rw[e] at h2
  match hw:g.ws with
  | []=>rw[hw] at h2;cases h2
  | a::b::r=>rw[hw] at h2;simp at h2;omega
  | [a]=>
   rw[hw] at h3
   have:0≤a∧a < n:=by simpa[inW] using h3
   exact⟨a.toNat,by rw[show ((a.toNat:Nat):Int)=a by omega],by omega⟩
 refine⟨⟨by omega,by omega,by omega⟩,fun e=>⟨h6.1 (by omega),⟨g.bit.toNat,?_,?_⟩,one (by rw[e];rfl)⟩,fun e=>⟨h6.1 (by omega),one (by rw[e]<;>rfl)⟩,fun e1 e2=>?_⟩
 ·have:=h5.2 e
  omega
 ·have:=h5.2 e
  omega
 ·have hk:¬ (g.kind < 1∨g.kind > 12):=fun hk=>by
   refine h1 ?_
   unfold arityF
   rw[if_neg (by omega),if_neg (by omega),if_neg (by omega)]
  unfold gErr placesR
  rw[if_neg hk,if_neg (by simpa using h2),if_neg h3,if_neg h4]
set_option maxHeartbeats 4000000 in
theorem e103 (H0 H O : PH) (h00:Sub H0 H) (rb mb:Nat) (gs f:Value) (us:List Value) (l:List Mx) (n q:Nat) (hn:n≤4) (hq:q < 5) (g:Gt) (hg:gateErr g n q=0) (hk13:g.kind ≠ 13) (w:Value) (hw:IntsC H w g.ws) (hl:l.length=2 ^ q) (hr:AllR (2 ^ n) l)
 (hO1:O rb=some (.cells ⟨[.int .i64 n,.int .i64 q,gs,.map (some mb),f]⟩ 108 (0,0))) (hO2:O mb=some (.map (entsM us) us.length)) (hm:MapN H0 H us l) :
 Cl Tryz.prog 103 [.pointer (some ⟨rb,0,none⟩),gv g w] H O fun r H' O'=>r=.int .i64 (gateL l g n).2∧((gateL l g n).2=0→∃ mb' us',O' rb=some (.cells ⟨[.int .i64 n,.int .i64 q,gs,.map (some mb'),f]⟩ 108 (0,0))∧O' mb'=some (.map (entsM us') us'.length)∧MapN H0 H' us' (gateL l g n).1):=by
 have hN:=pow_le16 hn
 have hQ:2 ^ q≤16:=Nat.pow_le_pow_right (by decide) (by omega:q≤4)
 have hN0:0 < 2 ^ n:=Nat.pow_pos (by decide)
 obtain⟨⟨c1,c2,c3⟩,_,f14,fg⟩:=gate_facts hn hq hg
 replace fg:=fg hk13
 obtain⟨wb,wc,rfl,hwc,hwi⟩:=id hw
 refine Cl_of (pol:=polGa) Γok Tryz.func103 (by kernel_rfl) rfl ?_
 conv=>whnf
 intro b3 hb3 hOb3
 conv=>whnf
 have hrb:rb ≠ mb:=fun e=>by rw[e,hO2] at hO1;cases hO1
 have s3:=sub_ins H (.cells ⟨[.int .i64 g.kind,.slice wb g.ws.length wc,.int .i64 g.bit,.int .i64 g.cond]⟩ 42 (0,0)) hb3
 have hb3':=ins_same H b3 (.cells ⟨[.int .i64 g.kind,.slice wb g.ws.length wc,.int .i64 g.bit,.int .i64 g.cond]⟩ 42 (0,0))
 replace hm:=hm.up s3
 replace h00:=h00.trans s3
 replace hw:=hw.up s3
 generalize ins H b3 (.cells ⟨[.int .i64 g.kind,.slice wb g.ws.length wc,.int .i64 g.bit,.int .i64 g.cond]⟩ 42 (0,0))=H1 at s3 hb3' hm h00 hw ⊢
 have hR:∀ us1:List Value,ins O mb (.map (entsM us1) us1.length) rb=some (.cells ⟨[.int .i64 n,.int .i64 q,gs,.map (some mb),f]⟩ 108 (0,0)):=fun us1=>(ins_ne _ _ hrb).trans hO1
 refine⟨_,⟨rfl,rfl,_,_,_,.inr hO1,rfl⟩,?_⟩
 conv=>whnf
 rw[shl_nat (by omega)]
 refine W_loop (pol:=polGa) Γok (Nat × PH × List Value) (fun i=>i.1≤2 ^ q∧Sub H1 i.2.1∧MapN H0 i.2.1 i.2.2 (gatedL g n l i.1)∧∀ t,t < i.1→(gateC g n l t).2=0) (fun i=>2 ^ q - i.1) (fun i=>[(14,.v (.int .i64 i.1))]) (fun _=>[]) (fun i=>i.2.1) (fun i=>ins O mb (.map (entsM i.2.2) i.2.2.length)) ⟨(0,H1,us),⟨by simp,Sub.refl _,by rw[gatedL_zero];exact hm,fun t h=>by omega⟩,rfl,ins_at hO2,?_⟩ ?_
 ·conv=>whnf
  repeat (refine⟨rfl,?_⟩;conv=>whnf)
  exact trivial
 rintro ⟨B,H2,us1⟩ ⟨p1,p2,p3,p4⟩
 dsimp only at p1 p2 p3 p4
 conv=>whnf
 refine if_intro (fun hc=>?_) (fun hc=>?_)
 ·have hB:B < 2 ^ q:=by
   have:=of_decide_eq_true hc
   omega
  conv=>whnf
  have hgetB:(gatedL g n l B)[B]'(by rw[gatedL_len];omega)=l.getD B []:=by
   have:=gatedL_at (g:=g) (n:=n) (l:=l) (B:=B) (t:=B) (by omega)
   rw[List.getElem?_eq_getElem (by rw[gatedL_len];omega),if_neg (by omega)] at this
   exact Option.some.inj this
  obtain⟨ub,hub,hmb⟩:=p3.at (b:=B) (by rw[gatedL_len];omega)
  rw[hgetB] at hmb
  obtain⟨r1,r2,r3⟩:=hr.at (i:=B) (by omega)
  refine if_intro (fun hcp=>?ya) (fun hcp=>?yb)
  case' ya=>
   have hcp:0 < g.cond:=of_decide_eq_true hcp
   have hw1:IntKind.i64.wrap (g.cond - 1)=((g.cond - 1).toNat:Nat):=by rw[wrap_id (by omega) (by omega)];omega
   conv=>whnf
   rw[hw1]
   refine if_intro (fun hbit=>?_) (fun hbit=>?_)
   ·have hbit:(andI (shrI (B:Int) ((g.cond - 1).toNat:Int)) 1 == 0)=true:=hbit
    have htb:B.testBit (g.cond - 1).toNat=false:=by
     rw[bit_cond (by omega) (by omega)] at hbit
     cases h:B.testBit (g.cond - 1).toNat with
     | false=>rfl
     | true=>rw[h] at hbit;simp at hbit
    have hgc:gateC g n l B=(l.getD B [],0):=if_pos ⟨hcp,htb⟩
    conv=>whnf
    refine⟨(B+1,H2,us1),⟨hB,p2,by dsimp only;rw[gatedL_skip (by omega) hgc];exact p3,fun t ht=>?_⟩,by dsimp only;omega,?_⟩
    ·by_cases e:t=B
     ·rw[e,hgc]
     ·exact p4 t (by dsimp only at ht;omega)
    refine⟨rfl,rfl,?_⟩
    conv=>whnf
    repeat (refine⟨rfl,?_⟩;conv=>whnf)
    refine⟨by show En.v (.int .i64 (IntKind.i64.wrap (B+1)))=_;rw[wrap_id (by omega) (by omega)]<;>rfl,?_⟩
    conv=>whnf
    repeat (refine⟨rfl,?_⟩;conv=>whnf)
    exact trivial
   have hbit:(andI (shrI (B:Int) ((g.cond - 1).toNat:Int)) 1 == 0)=false:=hbit
   have hgc:gateC g n l B=if g.kind=14 then resetR (l.getD B []) (g.ws.getD 0 0) n else aroundM (l.getD B []) (unitG g n):=if_neg fun h=>by
    rw[bit_cond (by omega) (by omega),h.2] at hbit
    simp at hbit
  case' yb=>
   have hcp:¬ 0 < g.cond:=of_decide_eq_false hcp
   have hgc:gateC g n l B=if g.kind=14 then resetR (l.getD B []) (g.ws.getD 0 0) n else aroundM (l.getD B []) (unitG g n):=if_neg fun h=>hcp h.1
  all_goals
   conv=>whnf
   refine W_draw (pol:=polGa) Γok mixes [(0,.pendO),(1,.pendO),(2,.pendO),(3,.pendO),(4,.pendO),(6,.pend),(5,.lock),(7,.lock),(8,.pendO),(9,.pendO),(10,.pendO),(11,.pendO),(12,.pendO)] 67 (by kernel_rfl) rfl ?_
   conv=>whnf
   refine⟨[.map (some mb)],⟨rfl,rfl,_,_,_,.inr (hR _),rfl⟩,?_⟩
   conv=>whnf
   refine lookM (.inr (ins_same _ _ _)) hub fun z=>?_
   conv=>whnf
   refine (Cl.newO (e83 (l.getD B []) g (by omega) (by omega) _ _ _ hmb (hw.up p2))).use fun r Ha sa hr=>?_
   obtain⟨_,v,rfl,hv⟩:=hr
   conv=>whnf
   generalize hX:thenM (madeM g (sizeD (l.getD B []).length)) (aroundM (l.getD B []))=X at hv ⊢
   refine if_intro (fun h14=>?_) (fun h14=>?_)
   case' _=>
    have h14:g.kind=14:=by simpa using h14
    rw[if_pos h14] at hgc
    obtain⟨_,k,hgw,hkn⟩:=f14 h14
    obtain⟨wb',wo,ew,hwr⟩:=IntsH.at hwi (i:=0) (by rw[hgw];simp)
    have hg0:(g.ws[0]'(by rw[hgw];simp))=(k:Int):=by simp[hgw]
    rw[hg0] at hwr
    rw[show g.ws.getD 0 0=(k:Int) by rw[hgw];rfl] at hgc
    conv=>whnf
    refine W_draw (pol:=polGa) Γok mixes [(0,.pendO),(1,.pendO),(2,.pendO),(3,.pendO),(4,.pendO),(6,.pend),(7,.pend),(8,.pend),(9,.pend),(5,.lock),(10,.lock),(11,.pendO),(12,.pendO),(13,.pendO),(14,.pendO),(15,.pendO)] 67 (by kernel_rfl) rfl ?_
    conv=>whnf
    refine⟨[.map (some mb)],⟨rfl,rfl,_,_,_,.inr (hR _),rfl⟩,?_⟩
    conv=>whnf
    rw[ew]
    conv=>whnf
    refine dec_intro (by simp[hgw]) ?_
    conv=>whnf
    refine⟨_,hwr _ _ (s3.trans (p2.trans sa)),?_⟩
    conv=>whnf
    refine lookM (.inr (ins_same _ _ _)) hub fun z=>?_
    conv=>whnf
    refine (Cl.newO (e87 (l.getD B []) n k r1 r2 r3 hn hkn _ _ (hmb.up sa))).use fun r Ha sb hr=>?_
    obtain⟨_,v,rfl,hv⟩:=hr
    rw[← hgc] at hv ⊢
    have sv:Sub H2 Ha:=sa.trans sb
    replace hv:=hv.imp id fun h=>h.base sa
    conv=>whnf
   rotate_left
   case' _=>
    have h14:¬ g.kind=14:=by simpa using h14
    rw[if_neg h14] at hgc
    obtain⟨m1,m2⟩:=made_err g (n:=n) (by omega)
    rw[show sizeD (l.getD B []).length=n by rw[r2];exact sizeD_at n (by omega),thenM_ok (by rw[m1];exact fg h14),(m2 (fg h14)).1,← hgc] at hX
    subst hX
    have sv:Sub H2 Ha:=sa
    conv=>whnf
   all_goals
    refine if_intro (fun he=>?_) (fun he=>?_)
    ·have he:(gateC g n l B).2 ≠ 0:=by simpa using he
     have hbad:=gate_bad (by omega) p4 he
     conv=>whnf
     refine⟨by rw[hbad],fun h=>?_⟩
     rw[hbad] at h
     exact absurd h he
    have he:(gateC g n l B).2=0:=by simpa using he
    conv=>whnf
    refine⟨[.map (some mb)],⟨rfl,rfl,_,_,_,.inr (hR _),rfl⟩,?_⟩
    conv=>whnf
    refine putM (us:=us1) (clk:=us1.length) (k:=B) (ins_same _ _ _) (by rw[p3.1,gatedL_len];omega) ?_
    conv=>whnf
    refine⟨(B+1,Ha,us1.set B v),⟨hB,p2.trans sv,?_,fun t ht=>?_⟩,by dsimp only;omega,?_⟩
    ·dsimp only
     rw[gatedL_step (by omega)]
     refine p3.set (h00.trans p2) sv (hv.resolve_left fun h=>?_)
     have:=(gateC_right hn (fun h=>(f14 h).2) fg hr (by omega) he).2.1
     rw[h.1] at this
     simp at this
     omega
    ·by_cases e:t=B
     ·rw[e];exact he
     ·exact p4 t (by dsimp only at ht;omega)
    refine⟨rfl,?_,?_⟩
    ·dsimp only
     rw[List.length_set]
     exact (ins_ins _ _ _ _).symm
    conv=>whnf
    repeat (refine⟨rfl,?_⟩;conv=>whnf)
    refine⟨by show En.v (.int .i64 (IntKind.i64.wrap (B+1)))=_;rw[wrap_id (by omega) (by omega)]<;>rfl,?_⟩
    conv=>whnf
    repeat (refine⟨rfl,?_⟩;conv=>whnf)
    exact trivial
 have hB:B=2 ^ q:=by
  have:=of_decide_eq_false hc
  omega
 subst hB
 have hok:=gate_ok (l:=l) (g:=g) (n:=n) fun t ht=>p4 t (by omega)
 rw[← hl] at p3
 dsimp only
 conv=>whnf
 rw[hok]
 refine⟨rfl,fun _=>⟨mb,us1,hR _,ins_same _ _ _,p3⟩⟩
def stepL (g : Gt) (n:Int) (l:List Mx):List Mx × Int:=if g.kind=13 then measL l (g.ws.getD 0 0).toNat g.bit.toNat else gateL l g n
def runG (n : Int):List Gt→List Mx→List Mx × Int
 | [],l=>(l,0)
 | g::gs,l=>if (stepL g n l).2 ≠ 0 then ([],(stepL g n l).2) else runG n gs (stepL g n l).1
def startL (m : Mx) (q:Nat):List Mx:=(LeastMF m).1::List.replicate (2 ^ q - 1) (zeroM m.length)
def runErr (c : Ct) (m:Mx):Int:=if circErr c ≠ 0 then circErr c else if denErr m ≠ 0 then denErr m else if sizeD m.length ≠ c.wires then 7 else if foundN c.gates > 8∨c.bits > 4 then 2 else 0
def runM (c : Ct) (m:Mx):List Mx × Int:=if runErr c m ≠ 0 then ([],runErr c m) else runG c.wires c.gates (startL m c.bits.toNat)
theorem least_right {m : Mx} {N:Nat} (hc:checkMF m=0) (h1:m.length=N) (hw:wideM m=N):(LeastMF m).2=0∧checkMF (LeastMF m).1=0∧(LeastMF m).1.length=N∧wideM (LeastMF m).1=N:=by
 have rm:=right_of hc
 have p1:0 < N:=by rw[← h1];exact rm.pos
 have p2:N≤64:=by rw[← h1];exact rm.le
 have e:LeastMF m=(m.map formsR,0):=by
  unfold LeastMF
  rw[← checkMF_checkMR,hc,if_neg (by simp)]
 have key:∀ i k,i < N→k < N→IsL (formR (entry m i k).1 (entry m i k).2):=fun i k hi hk=>form_L (entry_right hc (i:=i) (k:=k) (by omega) (by omega))
 have g:=gridM_shape (fun i k=>(formR (entry m i k).1 (entry m i k).2,0)) N N
 have eg:m.map formsR=gridM (fun i k=>(formR (entry m i k).1 (entry m i k).2,0)) N N:=by
  refine mat_ext (h:=N) (w:=N) (by simp[h1]) (fun i r hr=>?_) g.1 g.2 fun i k hi hk=>?_
  ·obtain⟨r',hr',rfl⟩:=List.mem_map.1 (List.mem_of_getElem? hr)
   have:=rm.row r' hr'
   simp only[formsR,List.length_map]
   omega
  ·have hi':i < m.length:=by omega
   have hk':k < (m[i]'hi').length:=by rw[rm.row _ (List.getElem_mem hi')];omega
   rw[forms_entry _ hi' hk',gridM_entry _ hi hk]
 obtain⟨c1,c2⟩:=grid_check (F:=fun i k=>(formR (entry m i k).1 (entry m i k).2,0)) p1 p2 fun i k hi hk=>(key i k hi hk).ok
 rw[e]
 dsimp only
 rw[eg]
 exact⟨rfl,c1,g.1,c2⟩
theorem start_right {m : Mx} {N q:Nat} (hc:checkMF m=0) (h1:m.length=N) (hw:wideM m=N):(startL m q).length=2 ^ q∧AllR N (startL m q):=by
 have rm:=right_of hc
 have p1:0 < N:=by rw[← h1];exact rm.pos
 have p2:N≤64:=by rw[← h1];exact rm.le
 have hQ0:0 < 2 ^ q:=Nat.pow_pos (by decide)
 refine⟨by unfold startL;rw[List.length_cons,List.length_replicate];omega,fun x hx=>?_⟩
 unfold startL at hx
 rcases List.mem_cons.1 hx with rfl | hx
 ·exact (least_right hc h1 hw).2
 ·rw[List.eq_of_mem_replicate hx,h1]
  obtain⟨a,b,c,_⟩:=zero_facts p1 p2
  exact⟨a,b,c⟩
theorem start_set {m : Mx} {q:Nat}:(List.replicate (2 ^ q) (zeroM m.length)).set 0 (LeastMF m).1=startL m q:=by
 have hQ0:0 < 2 ^ q:=Nat.pow_pos (by decide)
 unfold startL
 cases h:2 ^ q with
 | zero=>omega
 | succ x=>rfl
theorem step_right {g : Gt} {n q:Nat} {l:List Mx} (hn:n≤4) (hq:q < 5) (hg:gateErr g n q=0) (hl:l.length=2 ^ q) (hr:AllR (2 ^ n) l) (he:(stepL g n l).2=0):(stepL g n l).1.length=2 ^ q∧AllR (2 ^ n) (stepL g n l).1:=by
 have hN:=pow_le16 hn
 have hN0:0 < 2 ^ n:=Nat.pow_pos (by decide)
 obtain⟨_,f13,f14,fg⟩:=gate_facts hn hq hg
 unfold stepL at he ⊢
 split at he
 ·rename_i h
  rw[if_pos h]
  obtain⟨_,⟨b,hb,hbq⟩,k,hk,hkn⟩:=f13 h
  rw[hb,Int.toNat_natCast] at he ⊢
  obtain⟨r1,r2⟩:=measL_right ⟨hN0,by omega⟩ hq hbq hl hr he
  exact⟨by omega,r2⟩
 ·rename_i h
  rw[if_neg h]
  obtain⟨r1,r2⟩:=gateL_right hn (fun h=>(f14 h).2) (fg h) hr he
  exact⟨by omega,r2⟩
theorem circ_gates {c : Ct} (h:circErr c=0):∀ g∈c.gates,gateErr g c.wires c.bits=0:=fun g hg=>by
 unfold circErr at h
 split at h
 ·cases h
 split at h
 ·cases h
 exact firstErr_zero h _ (List.mem_map.2 ⟨g,hg,rfl⟩)
theorem MapN.base {H0 H1 H : PH} {us:List Value} {l:List Mx} (h:MapN H1 H us l) (hs:Sub H0 H1):MapN H0 H us l:=⟨h.1,h.2.up (newH_base hs)⟩
theorem parts_run {rb mb : Nat} {x y:Obj} (h:rb ≠ mb):Parts (ins (ins emp mb x) rb y) (ins emp rb y) (ins emp mb x):=by
 refine⟨fun n=>?_,fun n=>?_⟩
 ·unfold un
  by_cases e:n=rb
  ·subst e;rw[ins_same,ins_same]
  ·rw[ins_ne _ _ e,ins_ne _ _ e]<;>rfl
 ·by_cases e:n=rb
  ·subst e;exact .inr (ins_ne _ _ h)
  ·exact .inl (ins_ne _ _ e)
theorem un_run {rb mb : Nat} {x y z:Obj} (h:rb ≠ mb):un (ins emp rb y) (ins (ins emp mb x) mb z)=ins (ins emp mb z) rb y:=by
 rw[ins_ins]
 funext n
 unfold un
 by_cases e:n=rb
 ·subst e;rw[ins_same,ins_same]
 ·rw[ins_ne _ _ e,ins_ne _ _ e]<;>rfl
theorem lent_sub {H2 L Hx H3 : PH} (hd:Dis H2 L) (sx:Sub (un H2 L) Hx) (e1:∀ n,L n=none→H3 n=Hx n):Sub H2 H3∧Sub (newH (un H2 L) Hx) (newH H2 H3):=by
 refine⟨fun n o hn=>?_,fun n o hn=>?_⟩
 ·have hl:L n=none:=(hd n).resolve_left (by rw[hn];simp)
  rw[e1 n hl]
  exact sx n o (sub_un _ _ n o hn)
 ·unfold newH at hn ⊢
  cases h:H2 n with
  | some o'=>rw[show un H2 L n=some o' from sub_un _ _ n o' h] at hn;cases hn
  | none=>
   cases hl:L n with
   | some o'=>rw[show un H2 L n=some o' by unfold un;rw[h];exact hl] at hn;cases hn
   | none=>
    rw[show un H2 L n=none by unfold un;rw[h];exact hl] at hn
    show H3 n=some o
    rw[e1 n hl]
    exact hn
theorem MatN.re {H0 H H0' H' : PH} {u:Value} {m:Mx} (h:MatN H0 H u m) (hs:Sub (newH H0 H) (newH H0' H')):MatN H0' H' u m:=by
 obtain⟨a,b,h1,h2,h3⟩:=h
 exact⟨a,b,h1,h2,h3.up hs⟩
theorem ents_mem {us : List Value} {e:MapEntry} (h:e∈(entsM us).toList):∃ k,∃ hk:k < us.length,e={ key:=.int .i64 ((k:Nat):Int),val:=us[k],born:=k }:=by
 obtain⟨k,hk,he⟩:=List.mem_iff_getElem.1 (show e∈entsFrom 0 us from h)
 have hk':k < us.length:=by rw[entsFrom_len] at hk;exact hk
 refine⟨k,hk',?_⟩
 have:=entsFrom_get us 0 k _ (List.getElem?_eq_getElem hk')
 rw[List.getElem?_eq_getElem hk,Nat.zero_add] at this
 rw[← he]
 exact Option.some.inj this
theorem ents_in {us : List Value} {k:Nat} (hk:k < us.length):({ key:=.int .i64 ((k:Nat):Int),val:=us[k],born:=k }:MapEntry)∈(entsM us).toList:=by
 have:=entsFrom_get us 0 k _ (List.getElem?_eq_getElem hk)
 rw[Nat.zero_add] at this
 exact List.mem_of_getElem? this
theorem ents_born : ∀ (us:List Value) (a:Nat),(entsFrom a us).map (·.born)=(List.range us.length).map (a+·)
 | [],_=>rfl
 | u::us,a=>by
  rw[List.length_cons,List.range_succ_eq_map]
  simp only[entsFrom,List.map_cons,List.map_map,ents_born us (a+1)]
  rw[Nat.add_zero]
  refine congrArg (a::·) (List.map_congr_left fun x _=>?_)
  show a+1+x=a+(x+1)
  omega
theorem rangeM {H O : PH} {mb:Nat} {us:List Value} {K:PH→Value→Prop} (hO:O mb=some (.map (entsM us) us.length)) (h:∀ r:Nat,H r=none→O r=none→K (ins O r (.mapIter (some mb) us.length #[] us.length)) (.pointer (some ⟨r,0,none⟩))):rangeK H O (.map (some mb)) K:=by
 unfold rangeK
 exact⟨mb,_,_,rfl,.inr hO,h⟩
theorem nextM {H O : PH} {r mb:Nat} {us:List Value} {seen:Array Nat} {K:PH→Value→Prop} (hr:O r=some (.mapIter (some mb) us.length seen us.length)) (hO:O mb=some (.map (entsM us) us.length))
 (h0:(∀ k,k < us.length→seen.contains k=true)→K O (.tuple ⟨[.bool false]⟩))
 (h1:∀ k (hk:k < us.length),(leftOf (entsM us) (seen.push k)).size < (leftOf (entsM us) seen).size→K (ins O r (.mapIter (some mb) us.length (seen.push k) us.length)) (.tuple ⟨[.bool true,.int .i64 ((k:Nat):Int),us[k]]⟩)):nextK H O (.pointer (some ⟨r,0,none⟩)) K:=by
 unfold nextK
 refine⟨r,mb,us.length,us.length,seen,entsM us,us.length,rfl,hr,.inr hO,fun x hx=>?_,Nat.le_refl _,fun hz=>h0 fun k hk=>?_,fun e he=>?_⟩
 ·obtain⟨k,hk,rfl⟩:=ents_mem hx
  exact hk
 ·exact all_seen _ _ hz _ (ents_in hk)
 ·obtain⟨k,hk,rfl⟩:=ents_mem (mem_left he).1
  exact h1 k hk (left_shrinks _ _ _ he)
theorem itemM {H O : PH} {r mb k:Nat} {us:List Value} {seen:Array Nat} {K:Value→Prop} (hk:k < us.length) (hr:O r=some (.mapIter (some mb) us.length (seen.push k) us.length)) (hO:O mb=some (.map (entsM us) us.length)) (h:K (.tuple ⟨[.int .i64 ((k:Nat):Int),us[k]]⟩)):itemK H O (.pointer (some ⟨r,0,none⟩)) K:=by
 unfold itemK
 refine⟨r,mb,us.length,seen,entsM us,us.length,_,rfl,hr,.inr hO,ents_in hk,?_,h⟩
 show ((entsFrom 0 us).map (·.born)).Nodup
 rw[ents_born]
 simp only[Nat.zero_add,List.map_id']
 exact List.nodup_range
def polRn : Tmp→Pol:=fun | 63=>.own | _=>.loc
def OutL (H0 H M : PH) (r:Value) (x:List Mx × Int):Prop:=(x.1=[]∧r=.tuple #[.slice none 0 0,.int .i64 x.2])∨∃ us hb,r=.tuple #[.slice (some ⟨hb,0,none⟩) us.length us.length,.int .i64 x.2]∧M hb=some (.cells ⟨us⟩ 23 (0,0))∧MapN H0 H us x.1
theorem OutL.bad {H0 H M : PH} {e:Int}:OutL H0 H M (.tuple #[.slice none 0 0,.int .i64 e]) ([],e):=.inl ⟨rfl,rfl⟩
set_option maxHeartbeats 8000000 in
theorem e41 (c : Ct) (m:Mx) (hc:c.fit) (hm:m.length < 1000000) (H:PH) (v u:Value) (hv:CircH H v c) (hu:MatH H u m):Cl Tryz.prog 41 [v,u] H emp fun r H' M'=>OutL H H' M' r (runM c m):=by
 obtain⟨gb,gc,rfl,hg⟩:=hv.sl
 obtain⟨ub,uc,rfl⟩:=MatH.sl hu
 have hglen:=hc.1
 refine Cl_of (pol:=polRn) Γok Tryz.func41 (by kernel_rfl) rfl ?_
 conv=>whnf
 intro b1
 conv=>whnf
 refine (d88 c hc _ _ hv).val fun Ha sa=>?_
 conv=>whnf
 refine if_intro (fun ha=>?_) (fun ha=>?_)
 ·have hb:runErr c m=circErr c:=if_pos (by simpa using ha)
  rw[show runM c m=([],circErr c) by unfold runM;rw[hb,if_pos (by simpa using ha)]]
  conv=>whnf
  exact OutL.bad
 have ha:circErr c=0:=by simpa using ha
 conv=>whnf
 refine (e48 m hm _ _ (hu.up sa)).val fun Hb sb=>?_
 conv=>whnf
 refine if_intro (fun hb=>?_) (fun hb=>?_)
 ·have he:runErr c m=denErr m:=by unfold runErr;rw[if_neg (by rw[ha];simp),if_pos (by simpa using hb)]
  rw[show runM c m=([],denErr m) by unfold runM;rw[he,if_pos (by simpa using hb)]]
  conv=>whnf
  exact OutL.bad
 have hb:denErr m=0:=by simpa using hb
 conv=>whnf
 refine W_draw (pol:=polRn) Γok mixes [(0,.pendO),(1,.pendO),(3,.pend),(4,.pend),(2,.lock),(5,.pendO)] 137 (by kernel_rfl) rfl ?_
 conv=>whnf
 refine (e101 m.length _).val fun Hc sc=>?_
 conv=>whnf
 refine if_intro (fun hd=>?_) (fun hd=>?_)
 ·have he:runErr c m=7:=by unfold runErr;rw[if_neg (by rw[ha];simp),if_neg (by rw[hb];simp),if_pos (by simpa using hd)]
  rw[show runM c m=([],7) by unfold runM;rw[he,if_pos (by simp)]]
  conv=>whnf
  exact OutL.bad
 have hd:sizeD m.length=c.wires:=by simpa using hd
 conv=>whnf
 refine W_loop (pol:=polRn) Γok (Nat × PH) (fun i=>i.1≤c.gates.length∧Sub Hc i.2) (fun i=>c.gates.length - i.1) (fun i=>[(8,.v (.int .i64 (foundN (c.gates.take i.1)))),(38,.v (.int .i64 i.1))]) (fun _=>[]) (fun i=>i.2) (fun _=>emp) ⟨(0,Hc),⟨by simp,Sub.refl _⟩,rfl,rfl,?_⟩ ?_
 ·conv=>whnf
  repeat (refine⟨rfl,?_⟩;conv=>whnf)
  exact trivial
 rintro ⟨i,Hi⟩ ⟨h1i,hsi⟩
 dsimp only at h1i hsi
 conv=>whnf
 refine if_intro (fun hci=>?_) (fun hci=>?_)
 ·have hii:i < c.gates.length:=by
   have:=of_decide_eq_true hci
   omega
  have hle:=foundN_le c.gates i
  obtain⟨bg,off,w,wb,wc,rfl,hw,hrd,hwe⟩:=hg.rd hii
  subst hw
  have hsH:Sub H Hi:=((sa.trans sb).trans sc).trans hsi
  conv=>whnf
  refine dec_intro (by omega) ?_
  conv=>whnf
  refine⟨_,hrd Hi emp hsH,?_⟩
  conv=>whnf
  intro b5
  conv=>whnf
  refine if_intro (fun h13=>?_) (fun h13=>?_)
  ·conv=>whnf
   rw[wrap_id (n:=(foundN (c.gates.take i):Int)+1) (by omega) (by omega)]
   refine⟨(i+1,Hi),⟨by dsimp only;omega,hsi⟩,by dsimp only;omega,?_⟩
   refine⟨rfl,rfl,?_⟩
   dsimp only
   rw[foundN_snoc hii,show isM c.gates[i]=true by unfold isM;rw[h13]<;>rfl,if_pos rfl]
   conv=>whnf
   repeat (refine⟨rfl,?_⟩;conv=>whnf)
   refine⟨by show En.v (.int .i64 (IntKind.i64.wrap (i+1)))=_;rw[wrap_id (by omega) (by omega)]<;>rfl,?_⟩
   conv=>whnf
   repeat (refine⟨rfl,?_⟩;conv=>whnf)
   exact trivial
  conv=>whnf
  refine if_intro (fun h14=>?_) (fun h14=>?_)
  ·conv=>whnf
   rw[wrap_id (n:=(foundN (c.gates.take i):Int)+1) (by omega) (by omega)]
   refine⟨(i+1,Hi),⟨by dsimp only;omega,hsi⟩,by dsimp only;omega,?_⟩
   refine⟨rfl,rfl,?_⟩
   dsimp only
   rw[foundN_snoc hii,show isM c.gates[i]=true by unfold isM;rw[h14,Bool.or_true],if_pos rfl]
   conv=>whnf
   repeat (refine⟨rfl,?_⟩;conv=>whnf)
   refine⟨by show En.v (.int .i64 (IntKind.i64.wrap (i+1)))=_;rw[wrap_id (by omega) (by omega)]<;>rfl,?_⟩
   conv=>whnf
   repeat (refine⟨rfl,?_⟩;conv=>whnf)
   exact trivial
  conv=>whnf
  refine⟨(i+1,Hi),⟨by dsimp only;omega,hsi⟩,by dsimp only;omega,?_⟩
  refine⟨rfl,rfl,?_⟩
  dsimp only
  rw[foundN_snoc hii,show isM c.gates[i]=false by unfold isM;rw[h13,h14]<;>rfl,if_neg (by simp),Nat.add_zero]
  conv=>whnf
  repeat (refine⟨rfl,?_⟩;conv=>whnf)
  refine⟨by show En.v (.int .i64 (IntKind.i64.wrap (i+1)))=_;rw[wrap_id (by omega) (by omega)]<;>rfl,?_⟩
  conv=>whnf
  repeat (refine⟨rfl,?_⟩;conv=>whnf)
  exact trivial
 have hii:i=c.gates.length:=by
  have:=of_decide_eq_false hci
  omega
 subst hii
 dsimp only
 rw[List.take_length]
 have hmany:foundN c.gates > 8∨c.bits > 4→runM c m=([],2):=fun h=>by
  have he:runErr c m=2:=by unfold runErr;rw[if_neg (by rw[ha];simp),if_neg (by rw[hb];simp),if_neg (by rw[hd];simp),if_pos h]
  unfold runM
  rw[he,if_pos (by simp)]
 conv=>whnf
 refine if_intro (fun h8=>?_) (fun h8=>?_)
 ·conv=>whnf
  rw[hmany (.inl (by have:=of_decide_eq_true h8;omega))]
  exact OutL.bad
 have h8:=of_decide_eq_false h8
 conv=>whnf
 refine if_intro (fun h4=>?_) (fun h4=>?_)
 ·conv=>whnf
  rw[hmany (.inr (by have:=of_decide_eq_true h4;omega))]
  exact OutL.bad
 have h4:=of_decide_eq_false h4
 conv=>whnf
 intro mb hmb hOmb
 conv=>whnf
 intro rb hrb hOrb
 conv=>whnf
 obtain⟨n,hden⟩:=den_of hb
 have hsz:c.wires=(n:Int):=by rw[← hd];exact hden.size
 have hoff:¬ (offF c.wires 1 12 || offF c.bits 0 8)=true:=fun h=>by
  have:circErr c=3:=if_pos h
  rw[ha] at this
  cases this
 obtain⟨_,hbits⟩:=circ_in hoff
 obtain⟨q,hcq⟩:∃ q:Nat,c.bits=q:=⟨c.bits.toNat,by omega⟩
 have hq:q < 5:=by omega
 have hn:=hden.le
 have hQ:2 ^ q≤16:=Nat.pow_le_pow_right (by decide) (by omega:q≤4)
 have hQ0:0 < 2 ^ q:=Nat.pow_pos (by decide)
 have hN:=pow_le16 hn
 rw[hsz,hcq]
 conv=>whnf
 rw[shl_nat (by omega)]
 have hsH:Sub H Hi:=((sa.trans sb).trans sc).trans hsi
 have hmr:rb ≠ mb:=fun e=>by subst e;rw[ins_same] at hOrb;cases hOrb
 refine W_loop (pol:=polRn) Γok (Nat × PH × List Value) (fun i=>i.1≤2 ^ q∧Sub Hi i.2.1∧MapN Hi i.2.1 i.2.2 (List.replicate i.1 (zeroM m.length))) (fun i=>2 ^ q - i.1) (fun i=>[(67,.v (.int .i64 i.1))]) (fun _=>[]) (fun i=>i.2.1) (fun i=>ins (ins emp mb (.map (entsM i.2.2) i.2.2.length)) rb (.cells ⟨[.int .i64 n,.int .i64 q,.slice gb c.gates.length gc,.map (some mb),.nilFunc]⟩ 108 (0,0))) ⟨(0,Hi,[]),⟨by simp,Sub.refl _,MapN.nil _ _⟩,rfl,rfl,?_⟩ ?_
 ·conv=>whnf
  repeat (refine⟨rfl,?_⟩;conv=>whnf)
  exact trivial
 rintro ⟨i,H2,us1⟩ ⟨g1,g2,g3⟩
 dsimp only at g1 g2 g3
 conv=>whnf
 refine if_intro (fun hci=>?_) (fun hci=>?_)
 ·have hii:i < 2 ^ q:=by
   have:=of_decide_eq_true hci
   omega
  conv=>whnf
  refine W_lend (parts_run hmr) fun hd=>?_
  refine W_draw (pol:=polRn) Γok mixes [(0,.pend),(1,.pend),(2,.pend),(3,.pend),(4,.pend),(5,.pendO),(6,.pendO),(7,.lock),(8,.lock)] 137 (by kernel_rfl) rfl ?_
  conv=>whnf
  refine⟨[.map (some mb)],⟨rfl,rfl,_,_,_,.inl (un_right hd (ins_same _ _ _)),rfl⟩,?_⟩
  conv=>whnf
  refine (Cl.newM (by omega) (by omega) ((e66 m.length (by omega) _).mono fun _ _ _ _ h=>h.2)).use fun u Hx sx hr=>?_
  obtain⟨_,hnew⟩:=hr
  conv=>whnf
  have hui:us1.length=i:=by rw[g3.1];simp
  subst hui
  refine newM (ins_same _ _ _) ?_
  conv=>whnf
  refine⟨fun n o hn=>sx n o (un_right hd hn),fun q b3 hq hp=>?_,fun H3 e1 e2=>?_⟩
  ·cases Option.some.inj (List.mem_singleton.1 (List.mem_of_getElem? hq))
   cases hp
  obtain⟨s3,s4⟩:=lent_sub hd sx e1
  conv=>whnf
  refine⟨(us1.length+1,H3,us1++[u]),⟨hii,g2.trans s3,?_⟩,by dsimp only;omega,?_⟩
  ·dsimp only
   rw[List.replicate_succ']
   exact g3.snoc g2 s3 (hnew.re s4)
  refine⟨rfl,(un_run hmr).symm,?_⟩
  conv=>whnf
  repeat (refine⟨rfl,?_⟩;conv=>whnf)
  refine⟨by show En.v (.int .i64 (IntKind.i64.wrap (us1.length+1)))=_;rw[wrap_id (by omega) (by omega)]<;>rfl,?_⟩
  conv=>whnf
  repeat (refine⟨rfl,?_⟩;conv=>whnf)
  exact trivial
 have hii:i=2 ^ q:=by
  have:=of_decide_eq_false hci
  omega
 subst hii
 dsimp only
 conv=>whnf
 refine W_lend (parts_run hmr) fun hd=>?_
 refine W_draw (pol:=polRn) Γok mixes [(0,.pend),(1,.pend),(2,.pend),(3,.pend),(4,.pendO),(5,.lock),(6,.pendO),(7,.pendO),(8,.pend),(9,.lock)] 137 (by kernel_rfl) rfl ?_
 conv=>whnf
 refine⟨[.map (some mb)],⟨rfl,rfl,_,_,_,.inl (un_right hd (ins_same _ _ _)),rfl⟩,?_⟩
 conv=>whnf
 refine (Cl.newO (c28o m hm _ _ ((hu.up (hsH.trans g2)).up (sub_un _ _)))).use fun r Hx sx hr=>?_
 obtain⟨_,u0,rfl,hu0⟩:=hr
 conv=>whnf
 have hr0:=right_of hden.chk
 have hle0:(LeastMF m).1.length=m.length:=(least_right hden.chk hden.len hden.wid).2.2.1.trans hden.len.symm
 have hu0:=hu0.resolve_left fun h=>by
  rw[h.1] at hle0
  have:=hr0.pos
  simp at hle0
  omega
 refine putM (us:=us1) (clk:=us1.length) (k:=0) (ins_same _ _ _) (by rw[g3.1];simpa using hQ0) ?_
 conv=>whnf
 refine⟨fun n o hn=>sx n o (un_right hd hn),fun q b3 hq hp=>?_,fun H3 e1 e2=>?_⟩
 ·cases Option.some.inj (List.mem_singleton.1 (List.mem_of_getElem? hq))
  cases hp
 obtain⟨s3,s4⟩:=lent_sub hd sx e1
 have g4:=g3.set (b:=0) g2 s3 (hu0.re s4)
 rw[start_set] at g4
 have g2':=g2.trans s3
 obtain⟨st1,st2⟩:=start_right (q:=q) hden.chk hden.len hden.wid
 have hun:∀ n,un (ins emp rb (.cells ⟨[.int .i64 n,.int .i64 q,.slice gb c.gates.length gc,.map (some mb),.nilFunc]⟩ 108 (0,0))) (ins (ins emp mb (.map (entsM us1) us1.length)) mb (.map (entsM (us1.set 0 u0)) us1.length))=ins (ins emp mb (.map (entsM (us1.set 0 u0)) (us1.set 0 u0).length)) rb (.cells ⟨[.int .i64 n,.int .i64 q,.slice gb c.gates.length gc,.map (some mb),.nilFunc]⟩ 108 (0,0)):=fun n=>by
  rw[un_run hmr,List.length_set]
 rw[hun n]
 have hrun:runM c m=runG n c.gates (startL m q):=by
  have he:runErr c m=0:=by unfold runErr;rw[if_neg (by rw[ha];simp),if_neg (by rw[hb];simp),if_neg (by rw[hden.size,hsz];simp),if_neg (by omega)]
  unfold runM
  rw[he,if_neg (by simp),hsz,hcq,Int.toNat_natCast]
 have hgates:=circ_gates ha
 rw[hsz,hcq] at hgates
 conv=>whnf
 refine W_loop (pol:=polRn) Γok (Nat × PH × PH × Nat × Value × List Value × List Mx) (fun i=>i.1≤c.gates.length∧Sub Hi i.2.1∧MapN Hi i.2.1 i.2.2.2.2.2.1 i.2.2.2.2.2.2∧i.2.2.1 rb=some (.cells ⟨[.int .i64 n,.int .i64 q,.slice gb c.gates.length gc,.map (some i.2.2.2.1),i.2.2.2.2.1]⟩ 108 (0,0))∧i.2.2.1 i.2.2.2.1=some (.map (entsM i.2.2.2.2.2.1) i.2.2.2.2.2.1.length)∧i.2.2.2.2.2.2.length=2 ^ q∧AllR (2 ^ n) i.2.2.2.2.2.2∧runG n (c.gates.drop i.1) i.2.2.2.2.2.2=runM c m) (fun i=>c.gates.length - i.1) (fun i=>[(91,.v (.int .i64 i.1))]) (fun _=>[]) (fun i=>i.2.1) (fun i=>i.2.2.1) ⟨(0,H3,_,mb,_,us1.set 0 u0,startL m q),⟨by simp,g2',g4,ins_same _ _ _,?_,st1,st2,?_⟩,rfl,rfl,?_⟩ ?_
 ·exact (ins_ne _ _ (Ne.symm hmr)).trans (ins_same _ _ _)
 ·rw[hrun]<;>rfl
 ·conv=>whnf
  repeat (refine⟨rfl,?_⟩;conv=>whnf)
  exact trivial
 rintro ⟨i,H4,O4,mb4,f4,us4,l4⟩ ⟨p1,p2,p3,p4,p5,p6,p7,p8⟩
 dsimp only at p1 p2 p3 p4 p5 p6 p7 p8
 conv=>whnf
 refine if_intro (fun hci=>?_) (fun hci=>?_)
 ·have hii:i < c.gates.length:=by
   have:=of_decide_eq_true hci
   omega
  have hsH4:Sub H H4:=hsH.trans p2
  obtain⟨bg,off,w,wb,wc,rfl,hw,hrd,hwe⟩:=hg.rd hii
  have hgate:=hgates _ (List.getElem_mem hii)
  obtain⟨_,f13,f14,fg⟩:=gate_facts hn hq hgate
  have hstep:runG n (c.gates.drop i) l4=if (stepL c.gates[i] n l4).2 ≠ 0 then ([],(stepL c.gates[i] n l4).2) else runG n (c.gates.drop (i+1)) (stepL c.gates[i] n l4).1:=by
   rw[List.drop_eq_getElem_cons hii]
   rfl
  rw[p8] at hstep
  subst hw
  conv=>whnf
  refine dec_intro (by omega) ?_
  conv=>whnf
  refine⟨_,hrd H4 O4 hsH4,?_⟩
  conv=>whnf
  intro b7
  conv=>whnf
  have hmr4:mb4 ≠ rb:=fun e=>by rw[e,p4] at p5;cases p5
  refine⟨_,_,p4,(by show 5≤5;decide),?_⟩
  conv=>whnf
  refine if_intro (fun h13=>?_) (fun h13=>?_)
  case' _=>
   have h13:c.gates[i].kind=13:=by simpa using h13
   obtain⟨_,⟨b,hgb,hbq⟩,k,hgw,hkn⟩:=f13 h13
   have hsl:stepL c.gates[i] n l4=measL l4 k b:=by
    unfold stepL
    rw[if_pos h13,hgw,hgb]
    rfl
   conv=>whnf
   refine⟨_,_,ins_same _ _ _,(by show 5≤5;decide),?_⟩
   conv=>whnf
   refine W_draw (pol:=polRn) Γok mixes [(0,.pendO),(1,.pendO),(2,.pendO),(3,.pendO),(4,.pendO),(5,.lock),(6,.pendO)] 137 (by kernel_rfl) rfl ?_
   conv=>whnf
   refine⟨_,⟨rfl,rfl,_,_,_,.inr (ins_same _ _ _),rfl⟩,?_⟩
   conv=>whnf
   rw[ins_ins]
   refine (e104 Hi H4 _ p2 rb mb4 _ _ us4 l4 n q k b hn hq hkn hbq c.gates[i] hgw hgb _ (hwe.up hsH4) p6 p7 (ins_same _ _ _) ((ins_ne _ _ hmr4).trans p5) p3).mono fun r H5 O5 s5 hr=>?_
   obtain⟨rfl,hr⟩:=hr
   replace hr:(stepL c.gates[i] n l4).2=0→∃ f5 mb' us',O5 rb=some (.cells ⟨[.int .i64 n,.int .i64 q,.slice (some ⟨bg,off,none⟩) c.gates.length gc,.map (some mb'),f5]⟩ 108 (0,0))∧O5 mb'=some (.map (entsM us') us'.length)∧MapN Hi H5 us' (stepL c.gates[i] n l4).1:=fun h=>by
    rw[hsl] at h ⊢
    obtain⟨mb',us',x1,x2,x3⟩:=hr h
    exact⟨_,mb',us',x1,x2,x3⟩
   rw[← hsl]
  rotate_left
  case' _=>
   have h13:¬ c.gates[i].kind=13:=by simpa using h13
   have hsl:stepL c.gates[i] n l4=gateL l4 c.gates[i] n:=if_neg h13
   conv=>whnf
   refine W_draw (pol:=polRn) Γok mixes [(0,.pendO),(1,.pendO),(2,.pendO),(3,.pendO),(4,.pendO),(5,.lock),(6,.pendO)] 137 (by kernel_rfl) rfl ?_
   conv=>whnf
   refine⟨_,⟨rfl,rfl,_,_,_,.inr (ins_same _ _ _),rfl⟩,?_⟩
   conv=>whnf
   refine (e103 Hi H4 _ p2 rb mb4 _ _ us4 l4 n q hn hq c.gates[i] hgate h13 _ (hwe.up hsH4) p6 p7 (ins_same _ _ _) ((ins_ne _ _ hmr4).trans p5) p3).mono fun r H5 O5 s5 hr=>?_
   obtain⟨rfl,hr⟩:=hr
   replace hr:(stepL c.gates[i] n l4).2=0→∃ f5 mb' us',O5 rb=some (.cells ⟨[.int .i64 n,.int .i64 q,.slice (some ⟨bg,off,none⟩) c.gates.length gc,.map (some mb'),f5]⟩ 108 (0,0))∧O5 mb'=some (.map (entsM us') us'.length)∧MapN Hi H5 us' (stepL c.gates[i] n l4).1:=fun h=>by
    rw[hsl] at h ⊢
    obtain⟨mb',us',x1,x2,x3⟩:=hr h
    exact⟨_,mb',us',x1,x2,x3⟩
   rw[← hsl]
  all_goals
   conv=>whnf
   refine if_intro (fun he=>?_) (fun he=>?_)
   ·rw[hstep,if_pos (by simpa using he)]
    conv=>whnf
    exact OutL.bad
   have he:(stepL c.gates[i] n l4).2=0:=by simpa using he
   rw[if_neg (by rw[he];simp)] at hstep
   obtain⟨f5,mb5,us5,x1,x2,x3⟩:=hr he
   obtain⟨y1,y2⟩:=step_right hn hq hgate p6 p7 he
   conv=>whnf
   refine⟨(i+1,H5,O5,mb5,f5,us5,(stepL c.gates[i] n l4).1),⟨hii,p2.trans s5,x3,x1,x2,y1,y2,hstep.symm⟩,by dsimp only;omega,?_⟩
   refine⟨rfl,rfl,?_⟩
   conv=>whnf
   repeat (refine⟨rfl,?_⟩;conv=>whnf)
   refine⟨by show En.v (.int .i64 (IntKind.i64.wrap (i+1)))=_;rw[wrap_id (by omega) (by omega)]<;>rfl,?_⟩
   conv=>whnf
   repeat (refine⟨rfl,?_⟩;conv=>whnf)
   exact trivial
 have hii:i=c.gates.length:=by
  have:=of_decide_eq_false hci
  omega
 subst hii
 rw[List.drop_length] at p8
 have hfin:runM c m=(l4,0):=p8.symm
 rw[hfin]
 dsimp only
 conv=>whnf
 rw[shl_nat (by omega)]
 conv=>whnf
 refine dec_intro (Int.le_refl _) ?_
 conv=>whnf
 refine dec_intro (by omega) ?_
 conv=>whnf
 refine dec_intro (by omega) ?_
 conv=>whnf
 intro hb hhb hOhb
 conv=>whnf
 have hr1:rb ≠ hb:=fun e=>by subst e;rw[p4] at hOhb;cases hOhb
 have hm1:mb4 ≠ hb:=fun e=>by subst e;rw[p5] at hOhb;cases hOhb
 refine⟨_,⟨rfl,rfl,_,_,_,.inr ((ins_ne _ _ hr1).trans p4),rfl⟩,?_⟩
 conv=>whnf
 refine rangeM ((ins_ne _ _ hm1).trans p5) fun it hit hOit=>?_
 have hi1:it ≠ hb:=fun e=>by rw[e,ins_same] at hOit;cases hOit
 have hi2:it ≠ mb4:=fun e=>by rw[e,ins_ne _ _ hm1,p5] at hOit;cases hOit
 have hul:us4.length=2 ^ q:=p3.1.trans p6
 conv=>whnf
 refine W_loop (pol:=polRn) Γok (Array Nat × List Value × PH) (fun i=>i.2.1.length=2 ^ q∧i.2.2 mb4=some (.map (entsM us4) us4.length)∧i.2.2 it=some (.mapIter (some mb4) us4.length i.1 us4.length)∧i.2.2 hb=some (.cells ⟨i.2.1⟩ 23 (0,0))∧∀ k,i.1.contains k=true→i.2.1[k]?=us4[k]?) (fun i=>(leftOf (entsM us4) i.1).size) (fun _=>[]) (fun _=>[]) (fun _=>H4) (fun i=>i.2.2) ⟨(#[],List.replicate (2 ^ q) (.slice none 0 0),_),⟨by simp,?_,ins_same _ _ _,?_,fun k h=>by simp at h⟩,rfl,rfl,?_⟩ ?_
 ·exact (ins_ne _ _ (Ne.symm hi2)).trans ((ins_ne _ _ hm1).trans p5)
 ·refine (ins_ne _ _ (Ne.symm hi1)).trans ((ins_same _ _ _).trans ?_)
  rw[Int.toNat_natCast]
  simp
 ·conv=>whnf
  repeat (refine⟨rfl,?_⟩;conv=>whnf)
  exact trivial
 rintro ⟨seen,hs,O6⟩ ⟨z1,z2,z3,z4,z5⟩
 dsimp only at z1 z2 z3 z4 z5
 conv=>whnf
 refine nextM z3 z2 (fun hall=>?_) (fun k hk hless=>?_)
 ·conv=>whnf
  have heq:hs=us4:=List.ext_getElem? fun k=>by
   by_cases hk:k < us4.length
   ·exact z5 k (hall k hk)
   ·rw[List.getElem?_eq_none (by omega),List.getElem?_eq_none (by omega)]
  rw[heq] at z4
  refine .inr ⟨us4,hb,?_,z4,p3.base hsH⟩
  rw[hul]
  rfl
 conv=>whnf
 refine itemM hk (ins_same _ _ _) ((ins_ne _ _ (Ne.symm hi2)).trans z2) ?_
 conv=>whnf
 obtain⟨uk,huk,hmk⟩:=p3.at (b:=k) (by omega)
 obtain⟨kb,kc,ek⟩:=MatH.sl hmk
 have huk':us4[k]=.slice kb (l4[k]'(by omega)).length kc:=by
  rw[List.getElem?_eq_getElem hk] at huk
  exact (Option.some.inj huk).trans ek
 rw[huk']
 refine dec_intro (by rw[Int.toNat_natCast];omega) ?_
 conv=>whnf
 refine⟨_,_,(ins_ne _ _ (Ne.symm hi1)).trans z4,?_,?_⟩
 ·simp
  omega
 conv=>whnf
 refine⟨(seen.push k,hs.set k (.slice kb (l4[k]'(by omega)).length kc),ins (ins O6 it (.mapIter (some mb4) us4.length (seen.push k) us4.length)) hb (.cells ⟨hs.set k (.slice kb (l4[k]'(by omega)).length kc)⟩ 23 (0,0))),⟨by simpa using z1,?_,?_,ins_same _ _ _,fun t ht=>?_⟩,hless,?_⟩
 ·exact (ins_ne _ _ hm1).trans ((ins_ne _ _ (Ne.symm hi2)).trans z2)
 ·exact (ins_ne _ _ hi1).trans (ins_same _ _ _)
 ·dsimp only at ht ⊢
  by_cases e:k=t
  ·subst e
   rw[List.getElem?_set_self (by omega),List.getElem?_eq_getElem hk,huk']
  ·rw[List.getElem?_set_ne e]
   refine z5 t ?_
   rw[contains_push] at ht
   have:(t == k)=false:=beq_eq_false_iff_ne.2 (Ne.symm e)
   rw[this,Bool.or_false] at ht
   exact ht
 refine⟨rfl,?_,?_⟩
 ·dsimp only
  rw[List.set_eq_take_append_cons_drop,if_pos (by omega),Int.toNat_natCast,Nat.zero_add,Nat.mul_one,List.append_assoc]
  rfl
 conv=>whnf
 repeat (refine⟨rfl,?_⟩;conv=>whnf)
 exact trivial
theorem Her.den {m : Mx} {n:Nat} (h:Her m (2 ^ n)) (hn:n≤4):Den m n:=⟨h.chk,h.len,h.wid,hn,h.herm⟩
theorem Den.her {m : Mx} {n:Nat} (d:Den m n):Her m (2 ^ n):=Her.of d.chk d.len d.wid d.herm
def AllD (n : Nat) (l:List Mx):Prop:=∀ m∈l,Den m n
theorem AllD.r {n : Nat} {l:List Mx} (h:AllD n l):AllR (2 ^ n) l:=fun m hm=>⟨(h m hm).chk,(h m hm).len,(h m hm).wid⟩
theorem AllD.at {n : Nat} {l:List Mx} (h:AllD n l) {i:Nat} (hi:i < l.length):Den (l.getD i []) n:=by
 rw[List.getD_eq_getElem?_getD,List.getElem?_eq_getElem hi]
 exact h _ (List.getElem_mem hi)
def stepC (g : Gt) (n:Int) (l:List Mx) (t:Nat):Mx × Int:=if g.kind=13 then measC l (g.ws.getD 0 0).toNat g.bit.toNat t else gateC g n l t
theorem stepL_eq (g : Gt) (n:Int) (l:List Mx):stepL g n l=if firstErr ((List.range l.length).map fun t=>(stepC g n l t).2) ≠ 0 then ([],firstErr ((List.range l.length).map fun t=>(stepC g n l t).2)) else ((List.range l.length).map fun t=>(stepC g n l t).1,0):=by
 unfold stepL stepC
 by_cases h:g.kind=13
 ·simp only[if_pos h];rfl
 ·simp only[if_neg h];rfl
theorem step_bad {g : Gt} {n:Int} {l:List Mx} {B:Nat} (hB:B < l.length) (h0:∀ t,t < B→(stepC g n l t).2=0) (h:(stepC g n l B).2 ≠ 0):stepL g n l=([],(stepC g n l B).2):=by
 rw[stepL_eq,firstErr_range (f:=fun t=>(stepC g n l t).2) hB h0 h,if_pos h]
theorem step_ok {g : Gt} {n:Int} {l:List Mx} (h:∀ t,t < l.length→(stepC g n l t).2=0):stepL g n l=((List.range l.length).map fun t=>(stepC g n l t).1,0):=by
 have e:firstErr ((List.range l.length).map fun t=>(stepC g n l t).2)=0:=firstErr_all fun e he=>by
  obtain⟨s,hs,rfl⟩:=List.mem_map.1 he
  exact h s (List.mem_range.1 hs)
 rw[stepL_eq,e,if_neg (by simp)]
theorem reset_her {m : Mx} {n k:Nat} (hn:n≤4) (hk:k < n) (d:Den m n) (he:(resetR m k n).2=0):Den (resetR m k n).1 n:=by
 obtain⟨m1,m2⟩:=made_err (xGt k) (n:=n) (by omega)
 obtain⟨_,u1,u2⟩:=m2 (xgate_ok n (by omega) k hk)
 unfold resetR at he ⊢
 rw[Int.toNat_natCast] at he ⊢
 unfold thenM at he ⊢
 split at he
 ·rename_i h;exact absurd he h
 rename_i h
 rw[if_neg h]
 exact ((d.her.kept k 0).add ((d.her.kept k 1).around u1 u2 (by simpa using h)) he).den hn
theorem stepC_den {g : Gt} {n q:Nat} {l:List Mx} {t:Nat} (hn:n≤4) (hq:q < 5) (hg:gateErr g n q=0) (hl:l.length=2 ^ q) (hd:AllD n l) (ht:t < l.length) (he:(stepC g n l t).2=0):Den (stepC g n l t).1 n:=by
 obtain⟨_,f13,f14,fg⟩:=gate_facts hn hq hg
 unfold stepC at he ⊢
 split at he
 ·rename_i h
  rw[if_pos h]
  obtain⟨_,⟨b,hb,hbq⟩,k,hk,hkn⟩:=f13 h
  rw[hb,Int.toNat_natCast] at he ⊢
  obtain⟨a1,a2,_⟩:=low_lt q hq b hbq t (by omega)
  exact (((hd.at (by omega)).her.kept _ _).add ((hd.at (by omega)).her.kept _ _) he).den hn
 rename_i h13
 rw[if_neg h13]
 have d:=hd.at ht
 unfold gateC at he ⊢
 split at he
 ·rename_i h;rw[if_pos h];exact d
 rename_i h
 rw[if_neg h]
 split at he
 ·rename_i h14
  rw[if_pos h14]
  obtain⟨_,k,e,hk⟩:=f14 h14
  rw[show g.ws.getD 0 0=(k:Int) by rw[e];rfl] at he ⊢
  exact reset_her hn hk d he
 ·rename_i h14
  rw[if_neg h14]
  obtain⟨m1,m2⟩:=made_err g (n:=n) (by omega)
  obtain⟨_,u1,u2⟩:=m2 (fg h13 h14)
  exact (d.her.around u1 u2 he).den hn
theorem step_den {g : Gt} {n q:Nat} {l:List Mx} (hn:n≤4) (hq:q < 5) (hg:gateErr g n q=0) (hl:l.length=2 ^ q) (hd:AllD n l) (he:(stepL g n l).2=0):(stepL g n l).1.length=2 ^ q∧AllD n (stepL g n l).1:=by
 refine⟨(step_right hn hq hg hl hd.r he).1,?_⟩
 rw[stepL_eq] at he ⊢
 split at he
 ·rename_i h;exact absurd he h
 rename_i h
 rw[if_neg h]
 have h0:=firstErr_zero (by simpa using h)
 intro m hm
 obtain⟨t,ht,rfl⟩:=List.mem_map.1 hm
 exact stepC_den hn hq hg hl hd (List.mem_range.1 ht) (h0 _ (List.mem_map.2 ⟨t,ht,rfl⟩))
theorem start_den {m : Mx} {n q:Nat} (d:Den m n):(startL m q).length=2 ^ q∧AllD n (startL m q):=by
 have hN:=pow_le16 d.le
 have hN0:0 < 2 ^ n:=Nat.pow_pos (by decide)
 obtain⟨s1,s2⟩:=start_right (q:=q) d.chk d.len d.wid
 refine⟨s1,fun x hx=>?_⟩
 obtain⟨x1,x2,x3⟩:=s2 x hx
 refine Her.den ⟨x1,x2,x3,fun i k hi hk=>?_⟩ d.le
 unfold startL at hx
 rcases List.mem_cons.1 hx with rfl | hx
 ·have e:LeastMF m=(m.map formsR,0):=by
   unfold LeastMF
   rw[← checkMF_checkMR,d.chk,if_neg (by simp)]
  have en:∀ i k,i < 2 ^ n→k < 2 ^ n→lv 60 (entry (LeastMF m).1 i k)=lv 60 (entry m i k):=fun i k hi hk=>by
   have hi':i < m.length:=by rw[d.len];exact hi
   rw[e,forms_entry _ hi' (by rw[d.right.row _ (List.getElem_mem hi'),d.wid];exact hk),form_lv (d.entry_ok hi hk)]
  rw[en i k hi hk,en k i hk hi]
  exact d.her.val i k hi hk
 ·rw[List.eq_of_mem_replicate hx,d.len]
  obtain⟨_,_,_,z⟩:=zero_facts (N:=2 ^ n) hN0 (by omega)
  rw[z i k hi hk,z k i hk hi,lv_zero]
  rfl
def MatV (H : PH) (us:List Value) (l:List Mx):Prop:=us.length=l.length∧∀ (i:Nat) m u,l[i]?=some m→us[i]?=some u→MatH H u m
theorem MatV.up {H H' : PH} {us:List Value} {l:List Mx} (h:MatV H us l) (hs:Sub H H'):MatV H' us l:=⟨h.1,fun i m u hm hu=>(h.2 i m u hm hu).up hs⟩
theorem MatV.snoc {H : PH} {us:List Value} {l:List Mx} {u:Value} {m:Mx} (h:MatV H us l) (hu:MatH H u m):MatV H (us++[u]) (l++[m]):=by
 refine⟨by simp[h.1],fun i m' u' hm hu'=>?_⟩
 by_cases hi:i < l.length
 ·rw[List.getElem?_append_left hi] at hm
  rw[List.getElem?_append_left (by rw[h.1];exact hi)] at hu'
  exact h.2 i m' u' hm hu'
 ·have hi2:i < (l++[m]).length:=(List.getElem?_eq_some_iff.1 hm).1
  rw[List.length_append] at hi2
  have e:i=l.length:=by simp at hi2;omega
  subst e
  rw[List.getElem?_append_right (by omega)] at hm
  rw[List.getElem?_append_right (by rw[h.1];exact Nat.le_refl _)] at hu'
  rw[h.1] at hu'
  simp at hm hu'
  subst hm hu'
  exact hu
theorem MatV.mats {H : PH} {us:List Value} {l:List Mx} {b:Nat} {t:TypeId} (h:MatV H us l) (hb:H b=some (.cells ⟨us⟩ t (0,0))):MatsH H (.slice (some ⟨b,0,none⟩) us.length us.length) l:=by
 refine⟨us,h.1,⟨_,_,by rw[h.1],.inr ⟨b,0,_,_,_,rfl,hb,?_⟩⟩,h.2⟩
 simp
theorem getD_at {l : List Mx} {i:Nat} (h:i < l.length):l[i]=l.getD i []:=by rw[List.getD_eq_getElem?_getD,List.getElem?_eq_getElem h];rfl
def OutMs (H : PH) (r:Value) (x:List Mx × Int):Prop:=∃ u,r=.tuple #[u,.int .i64 x.2]∧MatsH H u x.1
def OutRaw (H M : PH) (r:Value) (x:List Mx × Int):Prop:=(x.1=[]∧r=.tuple #[.slice none 0 0,.int .i64 x.2])∨∃ us hb,r=.tuple #[.slice (some ⟨hb,0,none⟩) us.length us.length,.int .i64 x.2]∧M hb=some (.cells ⟨us⟩ 23 (0,0))∧MatV H us x.1
theorem OutRaw.bad {H M : PH} {e:Int}:OutRaw H M (.tuple #[.slice none 0 0,.int .i64 e]) ([],e):=.inl ⟨rfl,rfl⟩
set_option maxHeartbeats 8000000 in
theorem e99r (l : List Mx) (g:Gt) (n q:Nat) (hn:n≤4) (hq:q < 5) (hg:gateErr g n q=0) (hl:l.length=2 ^ q) (hd:AllD n l) (H:PH) (v w:Value) (hv:MatsH H v l) (hw:IntsC H w g.ws):Cl Tryz.prog 99 [v,gv g w] H emp fun r H' M'=>OutRaw H' M' r (stepL g n l):=by
 have hN:=pow_le16 hn
 have hQ:2 ^ q≤16:=Nat.pow_le_pow_right (by decide) (by omega:q≤4)
 have hN0:0 < 2 ^ n:=Nat.pow_pos (by decide)
 obtain⟨⟨c1,c2,c3⟩,f13,f14,fg⟩:=gate_facts hn hq hg
 obtain⟨wb,wc,rfl,hwc,hwi⟩:=id hw
 obtain⟨vb,vc,rfl⟩:∃ base cap,v=.slice base l.length cap:=by
  obtain⟨_,_,⟨b,c,h,_⟩,_⟩:=hv
  exact⟨b,c,h⟩
 refine Cl_of (pol:=polL) Γok Tryz.func99 (by kernel_rfl) rfl ?_
 conv=>whnf
 intro b3
 conv=>whnf
 refine dec_intro (Int.le_refl _) ?_
 conv=>whnf
 refine dec_intro (by omega) ?_
 conv=>whnf
 refine dec_intro (by omega) ?_
 conv=>whnf
 intro hb hhb hOhb
 conv=>whnf
 refine W_loop (pol:=polL) Γok (Nat × PH × List Value) (fun i=>i.1≤l.length∧Sub H i.2.1∧MatV i.2.1 i.2.2 ((List.range i.1).map fun t=>(stepC g n l t).1)∧∀ t,t < i.1→(stepC g n l t).2=0) (fun i=>l.length - i.1) (fun i=>[(7,.v (.int .i64 i.1))]) (fun _=>[]) (fun i=>i.2.1) (fun i=>ins emp hb (.cells ⟨i.2.2++List.replicate (l.length - i.1) (.slice none 0 0)⟩ 23 (0,0))) ⟨(0,H,[]),⟨by simp,Sub.refl _,⟨rfl,fun i m u h=>by simp at h⟩,fun t ht=>absurd ht (Nat.not_lt_zero t)⟩,rfl,?_,?_⟩ ?_
 ·simp
 ·conv=>whnf
  repeat (refine⟨rfl,?_⟩;conv=>whnf)
  exact trivial
 rintro ⟨B,H2,us⟩ ⟨p1,p2,p3,p4⟩
 dsimp only at p1 p2 p3 p4
 conv=>whnf
 refine if_intro (fun hc=>?_) (fun hc=>?_)
 ·have hB:B < l.length:=by
   have:=of_decide_eq_true hc
   omega
  have hul:us.length=B:=by rw[p3.1];simp
  have hhl:(us++List.replicate (l.length - B) (Value.slice none 0 0)).length=l.length:=by simp;omega
  conv=>whnf
  refine if_intro (fun h13=>?_) (fun h13=>?_)
  case' _=>
   have h13:g.kind=13:=by simpa using h13
   obtain⟨_,⟨b,hgb,hbq⟩,k,hgw,hkn⟩:=f13 h13
   obtain⟨wb',wo,ew,hwr⟩:=IntsH.at hwi (i:=0) (by rw[hgw];simp)
   have hg0:(g.ws[0]'(by rw[hgw];simp))=(k:Int):=by simp[hgw]
   rw[hg0] at hwr
   have hsc:stepC g n l B=measC l k b B:=by
    unfold stepC
    rw[if_pos h13,hgw,hgb]
    rfl
   obtain⟨a1,a2,_⟩:=low_lt q hq b hbq B (by omega)
   have hadd:IntKind.i64.wrap (((clB B b:Nat):Int)+((2 ^ b:Nat):Int))=((clB B b+2 ^ b:Nat):Int):=by
    rw[← Int.natCast_add]
    have a3:=a2
    generalize clB B b+2 ^ b=x at a3 ⊢
    exact wrap_id (by omega) (by omega)
   have h9:=clB_not B (by omega) b (by omega)
   have h10:andI (shrI (B:Int) (b:Int)) 1=(bitN B b:Nat):=by
    rw[bit_cond (by omega) (by omega)]
    unfold bitN
    cases B.testBit b<;>rfl
   unfold andNotI shlI at h9
   unfold andI shrI at h10
   rw[hgb]
   conv=>whnf
   rw[h9,h10,ew]
   obtain⟨lb,lo,u1,rfl,hrd1,hu1⟩:=(hv.up p2).rd (i:=clB B b) (by omega)
   obtain⟨_,_,u2,e2,hrd2,hu2⟩:=(hv.up p2).rd (i:=clB B b+2 ^ b) (by omega)
   cases e2
   refine W_draw (pol:=polL) Γok mixes [(0,.pend),(1,.pend),(2,.pendO),(3,.pendO),(4,.pendO),(5,.pendO),(6,.pendO),(7,.pendO),(8,.pendO),(9,.pendO),(10,.pendO),(12,.pend),(13,.pend),(14,.pend),(15,.pend),(16,.pend),(17,.pend),(18,.pend),(19,.pend),(20,.pend),(21,.pend),(22,.pend),(23,.pend),(24,.pend),(11,.lock),(25,.lock),(26,.lock),(27,.pendO),(28,.pendO),(29,.pendH),(30,.pendO),(31,.lock),(32,.pendO)] 120 (by kernel_rfl) rfl ?_
   conv=>whnf
   refine dec_intro (by omega) ?_
   conv=>whnf
   refine⟨_,hrd1 _,?_⟩
   conv=>whnf
   refine dec_intro (by simp[hgw]) ?_
   conv=>whnf
   refine⟨_,hwr _ _ p2,?_⟩
   conv=>whnf
   rw[shl_nat (by omega),hadd]
   refine dec_intro (by omega) ?_
   conv=>whnf
   refine⟨_,hrd2 _,?_⟩
   conv=>whnf
   refine dec_intro (by simp[hgw]) ?_
   conv=>whnf
   refine⟨_,hwr _ _ p2,?_⟩
   conv=>whnf
   rw[getD_at] at hu1 hu2
   have d1:=hd.at (i:=clB B b) (by omega)
   have d2:=hd.at (i:=clB B b+2 ^ b) (by omega)
   refine (e79 _ k (bitN B b:Nat) d1.chk (2 ^ n) hN d1.len d1.wid (by omega) _ _ hu1).use fun v1 Hb sb hr=>?_
   obtain⟨_,k1⟩:=hr
   conv=>whnf
   refine (e79 _ k (bitN B b:Nat) d2.chk (2 ^ n) hN d2.len d2.wid (by omega) _ _ (hu2.up sb)).use fun v2 Hc sc hr=>?_
   obtain⟨_,k2⟩:=hr
   conv=>whnf
   refine (c35 _ _ _ _ _ (k1.up sc) k2).use fun r Hx sd hr=>?_
   have sx:Sub H2 Hx:=(sb.trans sc).trans sd
   obtain⟨_,hr⟩:=hr
   rw[← AddM_eq] at hr
   have hr:OutH Hx r (measC l k b B):=hr
   rw[← hsc] at hr
   obtain⟨ur,rfl,hur⟩:=hr
   conv=>whnf
   obtain⟨ub,uc,eu⟩:=MatH.sl hur
   rw[eu] at hur ⊢
   refine dec_intro (by rw[Int.toNat_natCast];omega) ?_
   conv=>whnf
   refine⟨_,_,ins_same _ _ _,(by rw[hhl,Int.toNat_natCast];dsimp only[List.length_cons,List.length_nil];omega),?_⟩
   conv=>whnf
  rotate_left
  case' _=>
   conv=>whnf
   refine if_intro (fun h14=>?_) (fun h14=>?_)
   case' _=>
    have h13:¬ g.kind=13:=by simpa using h13
    have h14:g.kind=14:=by simpa using h14
    obtain⟨hc0,k,hgw,hkn⟩:=f14 h14
    obtain⟨wb',wo,ew,hwr⟩:=IntsH.at hwi (i:=0) (by rw[hgw];simp)
    have hg0:(g.ws[0]'(by rw[hgw];simp))=(k:Int):=by simp[hgw]
    rw[hg0] at hwr
    have dB:=hd.at hB
    have hsc:stepC g n l B=resetM (l.getD B []) k:=by
     unfold stepC gateC
     rw[if_neg h13,hc0,if_neg (by omega),if_pos h14,hgw]
     unfold resetM wiredErr
     rw[dB.err,dB.size,if_neg (show ¬ (0:Int) ≠ 0 by simp),if_neg (show ¬ ((k:Int) < 0∨(k:Int) ≥ (n:Int)) by omega),if_neg (by simp)]
     rfl
    obtain⟨lb,lo,u1,rfl,hrd1,hu1⟩:=(hv.up p2).rd (i:=B) hB
    rw[getD_at] at hu1
    conv=>whnf
    refine W_draw (pol:=polL) Γok mixes [(0,.pend),(1,.pend),(2,.pendO),(3,.pendO),(4,.pendO),(5,.pendO),(6,.pendO),(7,.pendO),(8,.pendO),(9,.pendO),(10,.lock),(11,.pendO),(12,.pendO),(13,.pendH),(14,.pendO),(15,.lock),(16,.pendO)] 120 (by kernel_rfl) rfl ?_
    conv=>whnf
    refine dec_intro (by omega) ?_
    conv=>whnf
    refine⟨_,hrd1 _,?_⟩
    conv=>whnf
    rw[ew]
    conv=>whnf
    refine dec_intro (by simp[hgw]) ?_
    conv=>whnf
    refine⟨_,hwr _ _ p2,?_⟩
    conv=>whnf
    refine (e25 (l.getD B []) k _ _ hu1).use fun r Hx sx hr=>?_
    obtain⟨_,hr⟩:=hr
    rw[← hsc] at hr
    obtain⟨ur,rfl,hur⟩:=hr
    conv=>whnf
    obtain⟨ub,uc,eu⟩:=MatH.sl hur
    rw[eu] at hur ⊢
    refine dec_intro (by rw[Int.toNat_natCast];omega) ?_
    conv=>whnf
    refine⟨_,_,ins_same _ _ _,(by rw[hhl,Int.toNat_natCast];dsimp only[List.length_cons,List.length_nil];omega),?_⟩
    conv=>whnf
   rotate_left
   case' _=>
    have h13:¬ g.kind=13:=by simpa using h13
    have h14:¬ g.kind=14:=by simpa using h14
    have hsc:stepC g n l B=if 0 < g.cond∧B.testBit (g.cond - 1).toNat=false then (l.getD B [],0) else aroundM (l.getD B []) (unitG g n):=by
     unfold stepC gateC
     rw[if_neg h13,if_neg h14]
    have dB:=hd.at hB
    obtain⟨lb,lo,u1,rfl,hrd1,hu1⟩:=(hv.up p2).rd (i:=B) hB
    rw[getD_at] at hu1
    conv=>whnf
    refine if_intro (fun hc0=>?_) (fun hc0=>?_)
    case' _=>
     have hc0:g.cond=0:=by simpa using hc0
     rw[if_neg (by omega)] at hsc
     conv=>whnf
    rotate_left
    case' _=>
     have hc0:¬ g.cond=0:=by simpa using hc0
     have hw1:IntKind.i64.wrap (g.cond - 1)=((g.cond - 1).toNat:Nat):=by rw[wrap_id (by omega) (by omega)];omega
     conv=>whnf
     rw[hw1]
     refine if_intro (fun hbit=>?_) (fun hbit=>?_)
     case' _=>
      have hbit:(andI (shrI (B:Int) ((g.cond - 1).toNat:Int)) 1 == 1)=true:=hbit
      rw[if_neg (fun h=>by rw[bit_cond (by omega) (by omega),h.2] at hbit;simp at hbit)] at hsc
      conv=>whnf
     rotate_left
     case' _=>
      have hbit:(andI (shrI (B:Int) ((g.cond - 1).toNat:Int)) 1 == 1)=false:=hbit
      have htb:B.testBit (g.cond - 1).toNat=false:=by
       rw[bit_cond (by omega) (by omega)] at hbit
       cases h:B.testBit (g.cond - 1).toNat with
       | false=>rfl
       | true=>rw[h] at hbit;simp at hbit
      rw[if_pos ⟨by omega,htb⟩] at hsc
      conv=>whnf
      refine dec_intro (by omega) ?_
      conv=>whnf
      refine⟨_,hrd1 _,?_⟩
      conv=>whnf
      have he:(stepC g n l B).2=0:=by rw[hsc]
      have sx:Sub H2 H2:=Sub.refl _
      have hur:MatH H2 u1 (stepC g n l B).1:=by rw[hsc];exact hu1
      obtain⟨Hx,rfl⟩:∃ Hx,Hx=H2:=⟨_,rfl⟩
      obtain⟨ub,uc,eu⟩:=MatH.sl hur
      rw[eu] at hur ⊢
      refine dec_intro (by rw[Int.toNat_natCast];omega) ?_
      conv=>whnf
      refine⟨_,_,ins_same _ _ _,(by rw[hhl,Int.toNat_natCast];dsimp only[List.length_cons,List.length_nil];omega),?_⟩
      conv=>whnf
      conv=>whnf
      refine⟨(B+1,Hx,us++[.slice ub (stepC g n l B).1.length uc]),⟨hB,p2.trans sx,?_,fun t ht=>?_⟩,by dsimp only;omega,?_⟩
      ·dsimp only
       rw[List.range_succ,List.map_append]
       exact (p3.up sx).snoc hur
      ·by_cases e:t=B
       ·rw[e];exact he
       ·exact p4 t (by dsimp only at ht;omega)
      refine⟨rfl,?_,?_⟩
      ·dsimp only
       rw[Int.toNat_natCast]
       rw[ins_ins]
       exact congrArg (fun c=>ins emp hb (.cells ⟨c⟩ 23 (0,0))) (set_at us _ _ hul hB).symm
      conv=>whnf
      repeat (refine⟨rfl,?_⟩;conv=>whnf)
      refine⟨by show En.v (.int .i64 (IntKind.i64.wrap (B+1)))=_;rw[wrap_id (by omega) (by omega)];rfl,?_⟩
      conv=>whnf
      repeat (refine⟨rfl,?_⟩;conv=>whnf)
      exact trivial
    all_goals
     refine W_draw (pol:=polL) Γok mixes [(0,.pend),(1,.pend),(2,.pendO),(3,.pendO),(4,.pendO),(5,.pendO),(6,.pendO),(7,.lock),(8,.pendO),(9,.pendO),(10,.pendH),(11,.pendO),(12,.lock),(13,.pendO)] 120 (by kernel_rfl) rfl ?_
     conv=>whnf
     refine dec_intro (by omega) ?_
     conv=>whnf
     refine⟨_,hrd1 _,?_⟩
     conv=>whnf
     refine (e77 (l.getD B []) g (by omega) _ _ _ hu1 (hw.up p2)).use fun r Hx sx hr=>?_
     obtain⟨_,hr⟩:=hr
     rw[dB.size,← hsc] at hr
     obtain⟨ur,rfl,hur⟩:=hr
     conv=>whnf
     obtain⟨ub,uc,eu⟩:=MatH.sl hur
     rw[eu] at hur ⊢
     refine dec_intro (by rw[Int.toNat_natCast];omega) ?_
     conv=>whnf
     refine⟨_,_,ins_same _ _ _,(by rw[hhl,Int.toNat_natCast];dsimp only[List.length_cons,List.length_nil];omega),?_⟩
     conv=>whnf
  all_goals
   refine if_intro (fun he=>?_) (fun he=>?_)
   ·have he:(stepC g n l B).2 ≠ 0:=by simpa using he
    rw[step_bad hB p4 he]
    conv=>whnf
    exact OutRaw.bad
   have he:(stepC g n l B).2=0:=by simpa using he
   conv=>whnf
   refine⟨(B+1,Hx,us++[.slice ub (stepC g n l B).1.length uc]),⟨hB,p2.trans sx,?_,fun t ht=>?_⟩,by dsimp only;omega,?_⟩
   ·dsimp only
    rw[List.range_succ,List.map_append]
    exact (p3.up sx).snoc hur
   ·by_cases e:t=B
    ·rw[e];exact he
    ·exact p4 t (by dsimp only at ht;omega)
   refine⟨rfl,?_,?_⟩
   ·dsimp only
    rw[Int.toNat_natCast]
    rw[ins_ins]
    exact congrArg (fun c=>ins emp hb (.cells ⟨c⟩ 23 (0,0))) (set_at us _ _ hul hB).symm
   conv=>whnf
   repeat (refine⟨rfl,?_⟩;conv=>whnf)
   refine⟨by show En.v (.int .i64 (IntKind.i64.wrap (B+1)))=_;rw[wrap_id (by omega) (by omega)];rfl,?_⟩
   conv=>whnf
   repeat (refine⟨rfl,?_⟩;conv=>whnf)
   exact trivial
 have hB:B=l.length:=by
  have:=of_decide_eq_false hc
  omega
 subst hB
 rw[step_ok p4]
 dsimp only
 conv=>whnf
 have hul:us.length=l.length:=by rw[p3.1];simp
 refine .inr ⟨us,hb,by rw[hul];rfl,?_,p3⟩
 rw[ins_same,Nat.sub_self]
 simp
theorem OutRaw.out {H M : PH} {r:Value} {x:List Mx × Int} (h:OutRaw H M r x) (hd:Dis H M):OutMs (un H M) r x:=by
 rcases h with⟨h1,rfl⟩ | ⟨us,hb,rfl,h2,h3⟩
 ·refine⟨_,rfl,?_⟩
  rw[h1]
  exact⟨[],rfl,⟨_,_,rfl,.inl ⟨rfl,rfl⟩⟩,fun i m u h=>by simp at h⟩
 ·exact⟨_,rfl,(h3.up (sub_un _ _)).mats (un_right hd h2)⟩
theorem e99 (l : List Mx) (g:Gt) (n q:Nat) (hn:n≤4) (hq:q < 5) (hg:gateErr g n q=0) (hl:l.length=2 ^ q) (hd:AllD n l) (H:PH) (v w:Value) (hv:MatsH H v l) (hw:IntsC H w g.ws):Cl Tryz.prog 99 [v,gv g w] H emp fun r H' _=>OutMs H' r (stepL g n l):=
 (e99r l g n q hn hq hg hl hd H v w hv hw).repart fun r H' M' _ hd h=>⟨_,_,.all hd,h.out hd⟩
theorem least_self {m : Mx} {N:Nat} (hc:checkMF m=0) (h1:m.length=N) (hw:wideM m=N) (h:∀ i k,i < N→k < N→IsL (entry m i k)):LeastMF m=(m,0):=by
 have rm:=right_of hc
 have e:LeastMF m=(m.map formsR,0):=by
  unfold LeastMF
  rw[← checkMF_checkMR,hc,if_neg (by simp)]
 rw[e]
 refine congrArg (·,(0:Int)) ?_
 refine mat_ext (h:=N) (w:=N) (by simp[h1]) (fun i r hr=>?_) h1 (fun i r hr=>?_) fun i k hi hk=>?_
 ·obtain⟨r',hr',rfl⟩:=List.mem_map.1 (List.mem_of_getElem? hr)
  have:=rm.row r' hr'
  simp only[formsR,List.length_map]
  omega
 ·rw[rm.row r (List.mem_of_getElem? hr),hw]
 ·have hi':i < m.length:=by omega
  rw[forms_entry _ hi' (by rw[rm.row _ (List.getElem_mem hi')];omega)]
  exact (h i k hi hk).form
def AllF (l : List Mx):Prop:=∀ m∈l,LeastMF m=(m,0)
theorem AllF.at {l : List Mx} (h:AllF l) {i:Nat} (hi:i < l.length):LeastMF (l.getD i [])=(l.getD i [],0):=by
 rw[List.getD_eq_getElem?_getD,List.getElem?_eq_getElem hi]
 exact h _ (List.getElem_mem hi)
theorem add_self {m o : Mx} {N:Nat} (hn:0 < N∧N≤64) (l0:m.length=N) (w0:wideM m=N) (he:(AddMF m o).2=0):LeastMF (AddMF m o).1=((AddMF m o).1,0):=by
 obtain⟨g1,g2,g3⟩:=add_right hn l0 w0 he
 obtain⟨_,_,_,_,e,h0⟩:=add_errs0 he
 rw[l0,w0] at e h0
 refine least_self g1 g2 g3 fun i k hi hk=>?_
 rw[e,gridM_entry _ hi hk]
 have h:=h0 i k hi hk
 unfold addAt at h ⊢
 rw[Add_eq] at h ⊢
 exact Add_L h
theorem around_self {m u : Mx} {N:Nat} (hn:0 < N∧N≤64) (l0:m.length=N) (w0:wideM m=N) (l1:u.length=N) (w1:wideM u=N) (he:(aroundM m u).2=0):LeastMF (aroundM m u).1=((aroundM m u).1,0):=by
 obtain⟨g1,g2,g3⟩:=around_right hn l0 w0 l1 w1 he
 refine least_self g1 g2 g3 fun i k hi hk=>?_
 unfold aroundM thenM at he ⊢
 by_cases h1:(MulMF u m).2 ≠ 0
 ·rw[if_pos h1] at he;exact absurd he h1
 rw[if_neg h1] at he ⊢
 have h1:(MulMF u m).2=0:=by simpa using h1
 obtain⟨p1,p2,p3,p4⟩:=mul_ex hn l1 w1 l0 w0 h1
 obtain⟨cu,_⟩:=mul_errs0 h1
 obtain⟨ed,cd⟩:=dag_ok cu
 have dl:(DaggerMF u).1.length=N:=by rw[ed,w1];exact gridM_len _ _ _
 have dw:wideM (DaggerMF u).1=N:=by rw[ed,w1,l1];exact (grid_right _ hn.1 hn.2 hn.1 hn.2).2
 exact ((mul_ex hn p2 p3 dl dw he).2.2.2 i k hi hk).1
theorem stepC_self {g : Gt} {n q:Nat} {l:List Mx} {t:Nat} (hn:n≤4) (hq:q < 5) (hg:gateErr g n q=0) (hl:l.length=2 ^ q) (hd:AllD n l) (hf:AllF l) (ht:t < l.length) (he:(stepC g n l t).2=0):LeastMF (stepC g n l t).1=((stepC g n l t).1,0):=by
 have hN:=pow_le16 hn
 have hN0:0 < 2 ^ n:=Nat.pow_pos (by decide)
 obtain⟨_,f13,f14,fg⟩:=gate_facts hn hq hg
 unfold stepC at he ⊢
 split at he
 ·rename_i h
  rw[if_pos h]
  obtain⟨_,⟨b,hb,hbq⟩,k,hk,hkn⟩:=f13 h
  rw[hb,Int.toNat_natCast] at he ⊢
  obtain⟨a1,a2,_⟩:=low_lt q hq b hbq t (by omega)
  have d:=hd.at (i:=clB t b) (by omega)
  obtain⟨k1,k2,k3,_⟩:=kept_facts d.chk d.len d.wid (g.ws.getD 0 0).toNat (bitN t b)
  exact add_self ⟨hN0,by omega⟩ k2 k3 he
 rename_i h13
 rw[if_neg h13]
 have d:=hd.at ht
 unfold gateC at he ⊢
 split at he
 ·rename_i h;rw[if_pos h];exact hf.at ht
 rename_i h
 rw[if_neg h]
 split at he
 ·rename_i h14
  rw[if_pos h14]
  obtain⟨_,k,e,hk⟩:=f14 h14
  rw[show g.ws.getD 0 0=(k:Int) by rw[e];rfl] at he ⊢
  obtain⟨k1,k2,k3,_⟩:=kept_facts d.chk d.len d.wid k 0
  unfold resetR at he ⊢
  rw[Int.toNat_natCast] at he ⊢
  unfold thenM at he ⊢
  split at he
  ·rename_i h;exact absurd he h
  rename_i h
  rw[if_neg h]
  exact add_self ⟨hN0,by omega⟩ k2 k3 he
 ·rename_i h14
  rw[if_neg h14]
  obtain⟨m1,m2⟩:=made_err g (n:=n) (by omega)
  obtain⟨_,u1,u2⟩:=m2 (fg h13 h14)
  exact around_self ⟨hN0,by omega⟩ d.len d.wid u1 u2 he
theorem step_self {g : Gt} {n q:Nat} {l:List Mx} (hn:n≤4) (hq:q < 5) (hg:gateErr g n q=0) (hl:l.length=2 ^ q) (hd:AllD n l) (hf:AllF l) (he:(stepL g n l).2=0):AllF (stepL g n l).1:=by
 rw[stepL_eq] at he ⊢
 split at he
 ·rename_i h;exact absurd he h
 rename_i h
 rw[if_neg h]
 have h0:=firstErr_zero (by simpa using h)
 intro m hm
 obtain⟨t,ht,rfl⟩:=List.mem_map.1 hm
 exact stepC_self hn hq hg hl hd hf (List.mem_range.1 ht) (h0 _ (List.mem_map.2 ⟨t,ht,rfl⟩))
theorem start_self {m : Mx} {n q:Nat} (d:Den m n):AllF (startL m q):=fun x hx=>by
 have hN:=pow_le16 d.le
 have hN0:0 < 2 ^ n:=Nat.pow_pos (by decide)
 unfold startL at hx
 rcases List.mem_cons.1 hx with rfl | hx
 ·obtain⟨_,c1,c2,c3⟩:=least_right d.chk d.len d.wid
  have e:LeastMF m=(m.map formsR,0):=by
   unfold LeastMF
   rw[← checkMF_checkMR,d.chk,if_neg (by simp)]
  refine least_self c1 c2 c3 fun i k hi hk=>?_
  have hi':i < m.length:=by rw[d.len];exact hi
  rw[e,forms_entry _ hi' (by rw[d.right.row _ (List.getElem_mem hi'),d.wid];exact hk)]
  exact form_L (d.entry_ok hi hk)
 ·rw[List.eq_of_mem_replicate hx,d.len]
  exact least_zero hN0 (by omega)
theorem run_facts {n q : Nat} (hn:n≤4) (hq:q < 5):∀ (gs:List Gt) (l:List Mx),(∀ g∈gs,gateErr g n q=0)→l.length=2 ^ q→AllD n l→AllF l→(runG n gs l).2=0→(runG n gs l).1.length=2 ^ q∧AllD n (runG n gs l).1∧AllF (runG n gs l).1
 | [],l,_,h1,h2,h3,_=>⟨h1,h2,h3⟩
 | g::gs,l,hg,h1,h2,h3,he=>by
  unfold runG at he ⊢
  split at he
  ·rename_i h;exact absurd he h
  rename_i h
  rw[if_neg h]
  have h0:(stepL g n l).2=0:=by simpa using h
  obtain⟨s1,s2⟩:=step_den hn hq (hg g (by simp)) h1 h2 h0
  exact run_facts hn hq gs _ (fun g' h'=>hg g' (by simp[h'])) s1 s2 (step_self hn hq (hg g (by simp)) h1 h2 h3 h0) he
theorem MatV.set0 {H : PH} {us:List Value} {l:List Mx} {u:Value} {m:Mx} (h:MatV H us l) (hu:MatH H u m):MatV H (us.set 0 u) (l.set 0 m):=by
 refine⟨by simp[h.1],fun i m' u' hm hu'=>?_⟩
 cases i with
 | zero=>
  cases us with
  | nil=>simp at hu'
  | cons a us=>
   cases l with
   | nil=>simp at hm
   | cons b l=>
    simp at hm hu'
    subst hm hu'
    exact hu
 | succ i=>
  rw[List.getElem?_set_ne (by omega)] at hm hu'
  exact h.2 (i+1) m' u' hm hu'
theorem runErr_ok {c : Ct} {m:Mx} (h:runErr c m=0):∃ n q:Nat,Den m n∧c.wires=n∧c.bits=q∧q < 5∧(∀ g∈c.gates,gateErr g n q=0)∧runM c m=runG n c.gates (startL m q):=by
 have hm:runM c m=runG c.wires c.gates (startL m c.bits.toNat):=by unfold runM;rw[h,if_neg (by simp)]
 unfold runErr at h
 split at h
 ·rename_i h';exact absurd h h'
 rename_i ha
 split at h
 ·rename_i h';exact absurd h h'
 rename_i hb
 split at h
 ·cases h
 rename_i hd
 split at h
 ·cases h
 rename_i h8
 have ha:circErr c=0:=by simpa using ha
 obtain⟨n,hden⟩:=den_of (show denErr m=0 by simpa using hb)
 have hsz:c.wires=(n:Int):=by
  have:sizeD m.length=c.wires:=by simpa using hd
  rw[← this]
  exact hden.size
 have hoff:¬ (offF c.wires 1 12 || offF c.bits 0 8)=true:=fun h=>by
  have:circErr c=3:=if_pos h
  rw[ha] at this
  cases this
 obtain⟨_,hbits⟩:=circ_in hoff
 obtain⟨q,hcq⟩:∃ q:Nat,c.bits=q:=⟨c.bits.toNat,by omega⟩
 have hg:=circ_gates ha
 rw[hsz,hcq] at hg
 rw[hsz,hcq,Int.toNat_natCast] at hm
 exact⟨n,q,hden,hsz,hcq,by omega,hg,hm⟩
theorem OutMs.bad {H : PH} {e:Int}:OutMs H (.tuple #[.slice none 0 0,.int .i64 e]) ([],e):=⟨_,rfl,[],rfl,⟨_,_,rfl,.inl ⟨rfl,rfl⟩⟩,fun i m u h=>by simp at h⟩
theorem MatsH.val {H : PH} {v:Value} {l:List Mx} (h:MatsH H v l):∃ b c,v=.slice b l.length c:=by
 obtain⟨_,_,⟨b,c,h,_⟩,_⟩:=h
 exact⟨b,c,h⟩
theorem run_cons {n : Int} {l:List Mx} {gs:List Gt} {i:Nat} (hi:i < gs.length):runG n (gs.drop i) l=if (stepL gs[i] n l).2 ≠ 0 then ([],(stepL gs[i] n l).2) else runG n (gs.drop (i+1)) (stepL gs[i] n l).1:=by
 rw[List.drop_eq_getElem_cons hi]
 rfl
theorem step_nil {g : Gt} {n:Int} {l:List Mx} (h:(stepL g n l).2 ≠ 0):(stepL g n l).1=[]:=by
 rw[stepL_eq] at h ⊢
 split
 ·rfl
 ·rename_i h'
  rw[if_neg h'] at h
  exact absurd rfl h
set_option maxHeartbeats 8000000 in
theorem e39 (c : Ct) (m:Mx) (hc:c.fit) (H:PH) (v u:Value) (hv:CircH H v c) (hu:MatH H u m):Cl Tryz.prog 39 [v,u] H emp fun r H' _=>OutMs H' r (runM c m):=by
 obtain⟨gb,gc,rfl,hg⟩:=hv.sl
 obtain⟨ub,uc,rfl⟩:=MatH.sl hu
 have hglen:=hc.1
 refine Cl_of (pol:=polL) Γok Tryz.func39 (by kernel_rfl) rfl ?_
 conv=>whnf
 intro b1
 conv=>whnf
 refine (d84 c hc _ _ hv).val fun Ha sa=>?_
 conv=>whnf
 refine if_intro (fun ha=>?_) (fun ha=>?_)
 ·have hb:runErr c m=circErr c:=if_pos (by simpa using ha)
  rw[show runM c m=([],circErr c) by unfold runM;rw[hb,if_pos (by simpa using ha)]]
  conv=>whnf
  exact OutMs.bad
 have ha:circErr c=0:=by simpa using ha
 conv=>whnf
 refine (e49 m _ _ (hu.up sa)).val fun Hb sb=>?_
 conv=>whnf
 refine if_intro (fun hb=>?_) (fun hb=>?_)
 ·have he:runErr c m=denErr m:=by unfold runErr;rw[if_neg (by rw[ha];simp),if_pos (by simpa using hb)]
  rw[show runM c m=([],denErr m) by unfold runM;rw[he,if_pos (by simpa using hb)]]
  conv=>whnf
  exact OutMs.bad
 have hb:denErr m=0:=by simpa using hb
 conv=>whnf
 refine W_draw (pol:=polL) Γok mixes [(0,.pendO),(1,.pendO),(3,.pend),(4,.pend),(2,.lock),(5,.pendO)] 79 (by kernel_rfl) rfl ?_
 conv=>whnf
 refine (e53 m.length _).val fun Hc sc=>?_
 conv=>whnf
 refine if_intro (fun hd=>?_) (fun hd=>?_)
 ·have he:runErr c m=7:=by unfold runErr;rw[if_neg (by rw[ha];simp),if_neg (by rw[hb];simp),if_pos (by simpa using hd)]
  rw[show runM c m=([],7) by unfold runM;rw[he,if_pos (by simp)]]
  conv=>whnf
  exact OutMs.bad
 have hd:sizeD m.length=c.wires:=by simpa using hd
 conv=>whnf
 refine (d57 c hc _ _ (hv.up ((sa.trans sb).trans sc))).val fun Hd sd=>?_
 conv=>whnf
 have hmany:foundN c.gates > 8∨c.bits > 4→runM c m=([],2):=fun h=>by
  have he:runErr c m=2:=by unfold runErr;rw[if_neg (by rw[ha];simp),if_neg (by rw[hb];simp),if_neg (by rw[hd];simp),if_pos h]
  unfold runM
  rw[he,if_pos (by simp)]
 refine if_intro (fun h8=>?_) (fun h8=>?_)
 ·conv=>whnf
  rw[hmany (.inl (by have:=of_decide_eq_true h8;omega))]
  exact OutMs.bad
 have h8:=of_decide_eq_false h8
 conv=>whnf
 refine if_intro (fun h4=>?_) (fun h4=>?_)
 ·conv=>whnf
  rw[hmany (.inr (by have:=of_decide_eq_true h4;omega))]
  exact OutMs.bad
 have h4:=of_decide_eq_false h4
 have he0:runErr c m=0:=by unfold runErr;rw[if_neg (by rw[ha];simp),if_neg (by rw[hb];simp),if_neg (by rw[hd];simp),if_neg (by omega)]
 obtain⟨n,q,hden,hsz,hcq,hq,hgates,hrun⟩:=runErr_ok he0
 have hn:=hden.le
 have hQ:2 ^ q≤16:=Nat.pow_le_pow_right (by decide) (by omega:q≤4)
 have hQ0:0 < 2 ^ q:=Nat.pow_pos (by decide)
 have hN:=pow_le16 hn
 have hml:=hden.len
 rw[hcq]
 conv=>whnf
 rw[shl_nat (by omega)]
 have hsH:Sub H Hd:=((sa.trans sb).trans sc).trans sd
 conv=>whnf
 refine dec_intro (Int.le_refl _) ?_
 conv=>whnf
 refine dec_intro (by omega) ?_
 conv=>whnf
 refine dec_intro (by omega) ?_
 conv=>whnf
 intro hb hhb hOhb
 conv=>whnf
 refine W_loop (pol:=polL) Γok (Nat × PH × List Value) (fun i=>i.1≤2 ^ q∧Sub Hd i.2.1∧MatV i.2.1 i.2.2 (List.replicate i.1 (zeroM m.length))) (fun i=>2 ^ q - i.1) (fun i=>[(9,.v (.int .i64 i.1))]) (fun _=>[]) (fun i=>i.2.1) (fun i=>ins emp hb (.cells ⟨i.2.2++List.replicate (2 ^ q - i.1) (.slice none 0 0)⟩ 23 (0,0))) ⟨(0,Hd,[]),⟨by simp,Sub.refl _,⟨rfl,fun i m u h=>by simp at h⟩⟩,rfl,?_,?_⟩ ?_
 ·rw[Int.toNat_natCast]
  simp
 ·conv=>whnf
  repeat (refine⟨rfl,?_⟩;conv=>whnf)
  exact trivial
 rintro ⟨i,H2,us⟩ ⟨p1,p2,p3⟩
 dsimp only at p1 p2 p3
 conv=>whnf
 refine if_intro (fun hci=>?_) (fun hci=>?_)
 ·have hii:i < 2 ^ q:=by
   have:=of_decide_eq_true hci
   simp only[Int.toNat_natCast] at this
   omega
  have hul:us.length=i:=by rw[p3.1];simp
  have hhl:(us++List.replicate (2 ^ q - i) (Value.slice none 0 0)).length=2 ^ q:=by simp;omega
  conv=>whnf
  refine (Cl.newM (by omega) (by omega) ((e97 m.length (by omega) _).mono fun _ _ _ _ h=>h.2)).use fun ur Hx sx hr=>?_
  obtain⟨_,hnew⟩:=hr
  have hur:MatH Hx ur (zeroM m.length):=hnew.mat
  conv=>whnf
  obtain⟨rb,rc,er⟩:=MatH.sl hur
  rw[er] at hur ⊢
  refine dec_intro (by rw[Int.toNat_natCast];omega) ?_
  conv=>whnf
  refine⟨_,_,ins_same _ _ _,(by rw[hhl,Int.toNat_natCast];dsimp only[List.length_cons,List.length_nil];omega),?_⟩
  conv=>whnf
  refine⟨(i+1,Hx,us++[.slice rb (zeroM m.length).length rc]),⟨hii,p2.trans sx,?_⟩,by dsimp only;omega,?_⟩
  ·dsimp only
   rw[List.replicate_succ']
   exact (p3.up sx).snoc hur
  refine⟨rfl,?_,?_⟩
  ·dsimp only
   rw[Int.toNat_natCast,ins_ins]
   exact congrArg (fun c=>ins emp hb (.cells ⟨c⟩ 23 (0,0))) (set_at us _ _ hul hii).symm
  conv=>whnf
  repeat (refine⟨rfl,?_⟩;conv=>whnf)
  refine⟨by show En.v (.int .i64 (IntKind.i64.wrap (i+1)))=_;rw[wrap_id (by omega) (by omega)];rfl,?_⟩
  conv=>whnf
  repeat (refine⟨rfl,?_⟩;conv=>whnf)
  exact trivial
 have hii:i=2 ^ q:=by
  have:=of_decide_eq_false hci
  simp only[Int.toNat_natCast] at this
  omega
 subst hii
 rw[Nat.sub_self]
 dsimp only
 have hul:us.length=2 ^ q:=by rw[p3.1];simp
 have hr0:=hden.right
 conv=>whnf
 refine (c87' m _ _ (hu.up (hsH.trans p2)) (by omega) (fun r hr=>by rw[hr0.row r hr,hden.wid];omega) (fun r hr y hy=>by
  have hc2:=hden.chk
  rw[checkMF_checkMR] at hc2
  obtain⟨_,_,_,z4⟩:=checkMR_zero hc2
  have:=z4 r hr y hy
  rw[← checkF_checkR] at this
  have:=right_in this
  omega)).use fun ur Hx sx hr=>?_
 obtain⟨_,hur⟩:=hr
 conv=>whnf
 obtain⟨rb,rc,er⟩:=MatH.sl hur
 rw[er] at hur ⊢
 refine dec_intro (by rw[Int.toNat_natCast];omega) ?_
 conv=>whnf
 refine⟨_,_,ins_same _ _ _,(by rw[List.length_append,hul];dsimp only[List.length_cons,List.length_nil];omega),?_⟩
 have hset:List.take (0+(0:Int).toNat*1) (us++List.replicate 0 (Value.slice none 0 0))++[Value.slice rb (m.map formsR).length rc]++List.drop (0+(0:Int).toNat*1+[Value.slice rb (m.map formsR).length rc].length) (us++List.replicate 0 (Value.slice none 0 0))=us.set 0 (.slice rb (m.map formsR).length rc):=by
  cases us with
  | nil=>simp at hul;omega
  | cons a us=>simp
 rw[hset,ins_ins]
 have hmf:m.map formsR=(LeastMF m).1:=by
  unfold LeastMF
  rw[← checkMF_checkMR,hden.chk,if_neg (by simp)]
 have p4:=(p3.up sx).set0 hur
 rw[hmf] at p4 ⊢
 rw[start_set] at p4
 generalize us.set 0 (.slice rb (LeastMF m).1.length rc)=us0 at p4 ⊢
 obtain⟨st1,st2⟩:=start_den (q:=q) hden
 have hl0:us0.length=2 ^ q:=p4.1.trans st1
 conv=>whnf
 refine W_pre fun hdis=>⟨_,_,.one hdis (ins_same _ _ _),?_⟩
 have hnone:Hx hb=none:=by
  have:=hdis hb
  rw[ins_same] at this
  exact this.resolve_right (by simp)
 have s5:=sub_ins Hx (.cells ⟨us0⟩ 23 (0,0)) hnone
 have hmats:MatsH (ins Hx hb (.cells ⟨us0⟩ 23 (0,0))) (.slice (some ⟨hb,0,none⟩) us0.length us0.length) (startL m q):=(p4.up s5).mats (ins_same _ _ _)
 rw[hl0] at hmats
 have hrun0:runG n (c.gates.drop 0) (startL m q)=runM c m:=hrun.symm
 have s6:Sub H (ins Hx hb (.cells ⟨us0⟩ 23 (0,0))):=((hsH.trans p2).trans sx).trans s5
 rw[hsz] at *
 generalize ins Hx hb (.cells ⟨us0⟩ 23 (0,0))=H0 at hmats s6 ⊢
 refine W_loop (pol:=polL) Γok (Nat × PH × Value × List Mx × Int) (fun i=>i.1≤c.gates.length∧Sub H i.2.1∧MatsH i.2.1 i.2.2.1 i.2.2.2.1∧(i.2.2.2.2=0→i.2.2.2.1.length=2 ^ q∧AllD n i.2.2.2.1∧runG n (c.gates.drop i.1) i.2.2.2.1=runM c m)∧(i.2.2.2.2 ≠ 0→runM c m=([],i.2.2.2.2)∧i.2.2.2.1=[])) (fun i=>c.gates.length - i.1) (fun i=>[(8,.v i.2.2.1),(10,.v (.int .i64 i.2.2.2.2)),(11,.v (.int .i64 i.1))]) (fun _=>[]) (fun i=>i.2.1) (fun _=>del (ins emp hb (.cells ⟨us0⟩ 23 (0,0))) hb) ⟨(0,H0,_,startL m q,0),⟨by simp,s6,hmats,fun _=>⟨st1,st2,hrun0⟩,fun h=>absurd rfl h⟩,rfl,rfl,?_⟩ ?_
 ·conv=>whnf
  repeat (refine⟨rfl,?_⟩;conv=>whnf)
  exact trivial
 rintro ⟨i,H4,v4,l4,e4⟩ ⟨g1,g2,g3,g4,g5⟩
 dsimp only at g1 g2 g3 g4 g5
 conv=>whnf
 refine if_intro (fun hci=>?_) (fun hci=>?_)
 ·have hii:i < c.gates.length:=by
   have:=of_decide_eq_true hci
   omega
  conv=>whnf
  refine if_intro (fun he4=>?_) (fun he4=>?_)
  ·have he4:e4=0:=by simpa using he4
   subst he4
   obtain⟨y1,y2,y3⟩:=g4 rfl
   have hgate:=hgates _ (List.getElem_mem hii)
   obtain⟨bg,off,w,wb,wc,rfl,hw,hrd,hwe⟩:=hg.rd hii
   subst hw
   conv=>whnf
   refine dec_intro (by omega) ?_
   conv=>whnf
   refine⟨_,hrd H4 _ g2,?_⟩
   conv=>whnf
   refine (e99 l4 c.gates[i] n q hn hq hgate y1 y2 _ _ _ g3 (hwe.up g2)).use fun r Hy sy hr=>?_
   obtain⟨_,u5,rfl,hu5⟩:=hr
   conv=>whnf
   rw[run_cons hii] at y3
   refine⟨(i+1,Hy,u5,(stepL c.gates[i] n l4).1,(stepL c.gates[i] n l4).2),⟨hii,g2.trans sy,hu5,fun h=>?_,fun h=>?_⟩,by dsimp only;omega,?_⟩
   ·dsimp only at h ⊢
    rw[if_neg (by rw[h];simp)] at y3
    obtain⟨z1,z2⟩:=step_den hn hq hgate y1 y2 h
    exact⟨z1,z2,y3⟩
   ·dsimp only at h ⊢
    rw[if_pos h] at y3
    exact⟨y3.symm,step_nil h⟩
   refine⟨rfl,rfl,?_⟩
   conv=>whnf
   repeat (refine⟨rfl,?_⟩;conv=>whnf)
   refine⟨by show En.v (.int .i64 (IntKind.i64.wrap (i+1)))=_;rw[wrap_id (by omega) (by omega)];rfl,?_⟩
   conv=>whnf
   repeat (refine⟨rfl,?_⟩;conv=>whnf)
   exact trivial
  have he4:e4 ≠ 0:=by simpa using he4
  obtain⟨q1,q2⟩:=g5 he4
  conv=>whnf
  rw[q1]
  rw[q2] at g3
  exact⟨_,rfl,g3⟩
 have hii:i=c.gates.length:=by
  have:=of_decide_eq_false hci
  omega
 subst hii
 conv=>whnf
 by_cases he4:e4=0
 ·obtain⟨y1,y2,y3⟩:=g4 he4
  rw[List.drop_length] at y3
  rw[← y3,he4]
  exact⟨_,rfl,g3⟩
 ·obtain⟨q1,q2⟩:=g5 he4
  rw[q1]
  rw[q2] at g3
  exact⟨_,rfl,g3⟩
def wholeM (c : Ct) (m:Mx):Mx × Int:=if (runM c m).2 ≠ 0 then ([],(runM c m).2) else addedM ((runM c m).1.getD 0 []) (runM c m).1.tail
theorem fold_bad {x : Mx × Int} (h:x.2 ≠ 0):∀ l:List Mx,l.foldl addStep x=x
 | []=>rfl
 | y::l=>by
  show l.foldl addStep (addStep x y)=x
  rw[show addStep x y=x from if_neg h]
  exact fold_bad h l
theorem run_all {c : Ct} {m:Mx} (h:(runM c m).2=0):∃ n q:Nat,n≤4∧q < 5∧(runM c m).1.length=2 ^ q∧AllD n (runM c m).1∧AllF (runM c m).1:=by
 by_cases he:runErr c m=0
 ·obtain⟨n,q,hden,hsz,hcq,hq,hgates,hrun⟩:=runErr_ok he
  obtain⟨s1,s2⟩:=start_den (q:=q) hden
  rw[hrun] at h ⊢
  obtain⟨x1,x2,x3⟩:=run_facts hden.le hq c.gates _ hgates s1 s2 (start_self hden) h
  exact⟨n,q,hden.le,hq,x1,x2,x3⟩
 ·unfold runM at h
  rw[if_pos he] at h
  exact absurd h he
theorem e40 (c : Ct) (m:Mx) (hc:c.fit) (H:PH) (v u:Value) (hv:CircH H v c) (hu:MatH H u m):Cl Tryz.prog 40 [v,u] H emp fun r H' _=>OutH H' r (wholeM c m):=by
 obtain⟨gb,gc,rfl,hg⟩:=hv.sl
 obtain⟨ub,uc,rfl⟩:=MatH.sl hu
 refine Cl_of (pol:=polL) Γok Tryz.func40 (by kernel_rfl) rfl ?_
 conv=>whnf
 intro b1
 conv=>whnf
 refine (e39 c m hc _ _ _ hv hu).use fun r Ha sa hr=>?_
 obtain⟨_,v0,rfl,hv0⟩:=hr
 obtain⟨lb,lc,rfl⟩:=hv0.val
 conv=>whnf
 refine if_intro (fun he=>?_) (fun he=>?_)
 ·rw[show wholeM c m=([],(runM c m).2) from if_pos (by simpa using he)]
  conv=>whnf
  exact OutH.bad
 have he:(runM c m).2=0:=by simpa using he
 rw[show wholeM c m=addedM ((runM c m).1.getD 0 []) (runM c m).1.tail from if_neg (by rw[he];simp),he]
 obtain⟨n,q,hn,hq,hl,hd,hf⟩:=run_all he
 have hQ:2 ^ q≤16:=Nat.pow_le_pow_right (by decide) (by omega:q≤4)
 have hQ0:0 < 2 ^ q:=Nat.pow_pos (by decide)
 generalize (runM c m).1=l at hv0 hl hd hf ⊢
 have hl0:0 < l.length:=by omega
 have hadd:addedM (l.getD 0 []) l.tail=(l.drop 1).foldl addStep (l.getD 0 [],0):=by
  unfold addedM
  rw[hf.at hl0,List.drop_one]
 conv=>whnf
 obtain⟨b0,o0,u0,rfl,hrd,hu0⟩:=hv0.rd (i:=0) hl0
 refine dec_intro (by omega) ?_
 conv=>whnf
 refine⟨_,hrd _,?_⟩
 conv=>whnf
 rw[getD_at] at hu0
 refine W_loop (pol:=polL) Γok (Nat × PH × Value × (Mx × Int)) (fun i=>1≤i.1∧i.1≤l.length∧Sub Ha i.2.1∧MatH i.2.1 i.2.2.1 i.2.2.2.1∧(l.drop i.1).foldl addStep i.2.2.2=addedM (l.getD 0 []) l.tail∧(i.2.2.2.2 ≠ 0→i.2.2.2.1=[])) (fun i=>l.length - i.1) (fun i=>[(7,.v (.int .i64 i.2.2.2.2)),(8,.v i.2.2.1),(9,.v (.int .i64 i.1))]) (fun _=>[]) (fun i=>i.2.1) (fun _=>emp) ⟨(1,Ha,u0,(l.getD 0 [],0)),⟨Nat.le_refl _,hl0,Sub.refl _,hu0,hadd.symm,fun h=>absurd rfl h⟩,rfl,rfl,?_⟩ ?_
 ·conv=>whnf
  repeat (refine⟨rfl,?_⟩;conv=>whnf)
  exact trivial
 rintro ⟨i,Hi,vi,x⟩ ⟨g0,g1,g2,g3,g4,g5⟩
 dsimp only at g0 g1 g2 g3 g4 g5
 conv=>whnf
 refine if_intro (fun hci=>?_) (fun hci=>?_)
 ·have hii:i < l.length:=by
   have:=of_decide_eq_true hci
   omega
  conv=>whnf
  refine if_intro (fun he4=>?_) (fun he4=>?_)
  ·have he4:x.2=0:=by simpa using he4
   obtain⟨_,_,u1,e1,hrd1,hu1⟩:=(hv0.up g2).rd hii
   cases e1
   conv=>whnf
   refine dec_intro (by omega) ?_
   conv=>whnf
   refine⟨_,hrd1 _,?_⟩
   conv=>whnf
   refine (c35 _ _ _ _ _ g3 hu1).use fun r Hy sy hr=>?_
   obtain⟨_,hr⟩:=hr
   rw[← AddM_eq] at hr
   obtain⟨u5,rfl,hu5⟩:=hr
   conv=>whnf
   rw[List.drop_eq_getElem_cons hii] at g4
   have g4:(l.drop (i+1)).foldl addStep (addStep x l[i])=addedM (l.getD 0 []) l.tail:=g4
   rw[show addStep x l[i]=AddMF x.1 l[i] from if_pos he4] at g4
   refine⟨(i+1,Hy,u5,AddMF x.1 l[i]),⟨by dsimp only;omega,hii,g2.trans sy,hu5,g4,fun h=>res_bad h⟩,by dsimp only;omega,?_⟩
   refine⟨rfl,rfl,?_⟩
   conv=>whnf
   repeat (refine⟨rfl,?_⟩;conv=>whnf)
   refine⟨by show En.v (.int .i64 (IntKind.i64.wrap (i+1)))=_;rw[wrap_id (by omega) (by omega)];rfl,?_⟩
   conv=>whnf
   repeat (refine⟨rfl,?_⟩;conv=>whnf)
   exact trivial
  have he4:x.2 ≠ 0:=by simpa using he4
  rw[fold_bad he4] at g4
  conv=>whnf
  refine if_intro (fun hx=>?_) (fun hx=>?_)
  ·conv=>whnf
   rw[← g4]
   have:x=([],x.2):=by rw[← g5 he4]
   rw[this]
   exact OutH.bad
  ·exact absurd (by simpa using hx) he4
 have hii:i=l.length:=by
  have:=of_decide_eq_false hci
  omega
 subst hii
 rw[List.drop_length] at g4
 have g4:x=_:=g4
 conv=>whnf
 refine if_intro (fun hx=>?_) (fun hx=>?_)
 ·have hx:x.2 ≠ 0:=by simpa using hx
  conv=>whnf
  rw[← g4]
  have:x=([],x.2):=by rw[← g5 hx]
  rw[this]
  exact OutH.bad
 ·have hx0:x.2=0:=by simpa using hx
  conv=>whnf
  rw[← g4]
  exact⟨_,by rw[hx0],g3⟩
theorem MapN.v {H0 H : PH} {us:List Value} {l:List Mx} (h:MapN H0 H us l):MatV H us l:=by
 refine⟨h.1,fun i m u hm hu=>?_⟩
 obtain⟨hi,e⟩:=List.getElem?_eq_some_iff.1 hm
 obtain⟨u',hu',hm'⟩:=h.at hi
 rw[hu] at hu'
 cases hu'
 rw[← e]
 exact hm'
def OutMc (H : PH) (r:Value) (x:List Mx × Int):Prop:=∃ b c,r=.tuple #[.slice b x.1.length c,.int .i64 x.2]∧x.1.length≤c∧MatsH H (.slice b x.1.length c) x.1
theorem OutL.out {H0 H M : PH} {r:Value} {x:List Mx × Int} (h:OutL H0 H M r x) (hd:Dis H M):OutMc (un H M) r x:=by
 rcases h with⟨h1,rfl⟩ | ⟨us,hb,rfl,h2,h3⟩
 ·refine⟨none,0,?_⟩
  rw[h1]
  exact⟨rfl,Nat.le_refl _,[],rfl,⟨_,_,rfl,.inl ⟨rfl,rfl⟩⟩,fun i m u h=>by simp at h⟩
 ·have h4:=(h3.v.up (sub_un _ _)).mats (un_right hd h2)
  rw[h3.1] at h4 ⊢
  exact⟨_,_,rfl,Nat.le_refl _,h4⟩
theorem e41p (c : Ct) (m:Mx) (hc:c.fit) (hm:m.length < 1000000) (H:PH) (v u:Value) (hv:CircH H v c) (hu:MatH H u m):Cl Tryz.prog 41 [v,u] H emp fun r H' _=>OutMc H' r (runM c m):=
 (e41 c m hc hm H v u hv hu).repart fun r H' M' _ hd h=>⟨_,_,.all hd,h.out hd⟩
theorem MatsH.tail {H : PH} {b0 o0 lc:Nat} {l:List Mx} (h:MatsH H (.slice (some ⟨b0,o0,none⟩) l.length lc) l) (hc:l.length≤lc) (h0:0 < l.length) :
 MatsH H (.slice (if lc=Int.toNat 1 then some ⟨b0,o0,none⟩ else Option.map (fun x:Addr=>x.add (Int.toNat 1*1)) (some (⟨b0,o0,none⟩:Addr))) ((l.length:Int).toNat - Int.toNat 1) (lc - Int.toNat 1)) l.tail:=by
 obtain⟨vs,h1,⟨_,_,e,h2⟩,h3⟩:=h
 cases e
 have hn:(l.length:Int).toNat - Int.toNat 1=l.tail.length:=by simp
 rw[hn]
 refine⟨vs.tail,by simp[h1],⟨_,_,rfl,?_⟩,fun i m u hm hu=>h3 (i+1) m u (by simpa using hm) (by simpa using hu)⟩
 by_cases hlc:lc=Int.toNat 1
 ·have hl1:l.length=1:=by
   have:Int.toNat 1=1:=rfl
   omega
  refine .inl ⟨by simp[hl1],?_⟩
  match vs,h1 with
  | [],_=>rfl
  | [_],_=>rfl
  | _::_::_,h1=>simp at h1;omega
 ·rw[if_neg hlc]
  obtain⟨h2,_⟩ | ⟨b,off,c,t,fr,eb,hH,ht⟩:=h2
  ·omega
  cases eb
  refine .inr ⟨b0,o0+1,c,t,fr,rfl,hH,?_⟩
  match vs,h1,ht with
  | [],h1,_=>simp at h1;omega
  | x::vs,_,ht=>
   rw[← List.drop_drop]
   cases hd:c.toList.drop o0 with
   | nil=>rw[hd] at ht;simp at ht
   | cons y d=>
    rw[hd] at ht
    simp at ht
    exact ht.2
theorem e42 (c : Ct) (m:Mx) (hc:c.fit) (hm:m.length < 1000000) (H:PH) (v u:Value) (hv:CircH H v c) (hu:MatH H u m):Cl Tryz.prog 42 [v,u] H emp fun r _ M'=>OutO M' r (wholeM c m):=by
 obtain⟨gb,gc,rfl,hg⟩:=hv.sl
 obtain⟨ub,uc,rfl⟩:=MatH.sl hu
 refine Cl_of (pol:=polL) Γok Tryz.func42 (by kernel_rfl) rfl ?_
 conv=>whnf
 intro b1
 conv=>whnf
 refine (e41p c m hc hm _ _ _ hv hu).use fun r Ha sa hr=>?_
 obtain⟨_,lb,lc,rfl,hlc,hv0⟩:=hr
 conv=>whnf
 refine if_intro (fun he=>?_) (fun he=>?_)
 ·rw[show wholeM c m=([],(runM c m).2) from if_pos (by simpa using he)]
  conv=>whnf
  exact OutO.bad
 have he:(runM c m).2=0:=by simpa using he
 rw[show wholeM c m=addedM ((runM c m).1.getD 0 []) (runM c m).1.tail from if_neg (by rw[he];simp)]
 obtain⟨n,q,hn,hq,hl,hd,hf⟩:=run_all he
 have hQ:2 ^ q≤16:=Nat.pow_le_pow_right (by decide) (by omega:q≤4)
 have hQ0:0 < 2 ^ q:=Nat.pow_pos (by decide)
 have hN:=pow_le16 hn
 generalize (runM c m).1=l at hv0 hlc hl hd hf ⊢
 have hl0:0 < l.length:=by omega
 obtain⟨b0,o0,u0,rfl,hrd,hu0⟩:=hv0.rd (i:=0) hl0
 rw[getD_at] at hu0
 conv=>whnf
 refine W_draw (pol:=polL) Γok mixes [(0,.pendO),(1,.pendO),(2,.pendO),(3,.pendO),(4,.pendO),(5,.lock),(6,.pendO),(7,.pendO),(8,.pendO),(9,.pendO)] 25 (by kernel_rfl) rfl ?_
 conv=>whnf
 refine dec_intro (by omega) ?_
 conv=>whnf
 refine⟨_,hrd _,?_⟩
 conv=>whnf
 refine dec_intro (by omega) ?_
 conv=>whnf
 refine dec_intro (by omega) ?_
 conv=>whnf
 refine (e86 (l.getD 0 []) l.tail (by have:=(hd.at hl0).len;omega) (by rw[List.length_tail];omega) (fun x hx=>by have:=(hd x (List.mem_of_mem_tail hx)).len;omega) _ _ _ hu0 (MatsH.tail hv0 hlc hl0)).mono fun r Hx Mx sx hr=>?_
 obtain⟨w2,rfl,hw2⟩:=hr
 obtain⟨wb2,wn2,wc2,rfl⟩:=OwnQ.sl hw2
 conv=>whnf
 exact⟨_,rfl,hw2⟩
theorem e51 (kind : Int) (w:Value) (ws:List Int) (H:PH) (hw:IntsC H w ws):Cl Tryz.prog 51 [.int .i64 kind,w] H emp fun r _ _=>r=gv ⟨kind,ws,0,0⟩ w:=by
 obtain⟨wb,wc,rfl,_⟩:=hw
 refine Cl_of (pol:=polL) Γok Tryz.func51 (by kernel_rfl) rfl ?_
 conv=>whnf
 intro b4
 conv=>whnf
 rfl
theorem e18 (l m : Mx) (H:PH) (u v:Value) (hu:MatH H u l) (hv:MatH H v m) (hlen:l.length < 1000000) (hrow:∀ r∈l,r.length < 1000000):Cl Tryz.prog 18 [u,v] H emp fun r _ _=>r=.bool (eqM l m):=by
 obtain⟨ub,uc,rfl⟩:=MatH.sl hu
 obtain⟨vb,vc,rfl⟩:=MatH.sl hv
 refine Cl_of (pol:=polL) Γok Tryz.func18 (by kernel_rfl) rfl ?_
 conv=>whnf
 refine (c52 l m _ _ _ hu hv (by omega) (fun r hr=>by have:=hrow r hr;omega)).val fun Ha sa=>?_
 conv=>whnf
theorem e55 (m : Mx) (H:PH) (u:Value) (hu:MatH H u m) (hlen:m.length < 9223372036854775808):Cl Tryz.prog 55 [u] H emp fun r _ _=>r=.bool (greatF m 8):=by
 obtain⟨ub,uc,rfl⟩:=MatH.sl hu
 refine Cl_of (pol:=polL) Γok Tryz.func55 (by kernel_rfl) rfl ?_
 conv=>whnf
 refine (c26 m 8 _ _ hu (by omega)).val fun Ha sa=>?_
 conv=>whnf
theorem e8 (l : List Mx) (H:PH) (v:Value) (hv:MatsH H v l) (hl:l.length < 1000000) (hm:∀ m∈l,m.length < 9223372036854775808):Cl Tryz.prog 8 [v] H emp fun r _ _=>r=.bool (l.any fun m=>greatF m 8):=by
 obtain⟨vs,h1,h2,h3⟩:=hv
 obtain⟨b,c,rfl,_⟩:=id h2
 refine Cl_of (pol:=polL) Γok Tryz.func8 (by kernel_rfl) rfl ?_
 conv=>whnf
 rw[← h1] at h2 ⊢
 refine (c66 vs (fun i=>greatF (l.getD i []) 8) (by omega) _ _ _ h2 fun i x hx=>?_).val fun Ha sa=>?_
 ·have hi:i < vs.length:=(List.getElem?_eq_some_iff.1 hx).1
  have hm':=h3 i (l[i]'(by omega)) x (List.getElem?_eq_getElem (by omega)) hx
  have hml:=hm _ (List.getElem_mem (show i < l.length by omega))
  rw[← getD_at (by omega)]
  exact⟨_,_,_,rfl,fun H' hs=>e55 _ _ _ (hm'.up hs) hml⟩
 conv=>whnf
 have e:(List.range vs.length).any (fun i=>greatF (l.getD i []) 8)=l.any fun m=>greatF m 8:=by
  rw[Bool.eq_iff_iff,List.any_eq_true,List.any_eq_true]
  constructor
  ·rintro ⟨i,hi,h⟩
   have hi:i < l.length:=by have:=List.mem_range.1 hi;omega
   rw[← getD_at hi] at h
   exact⟨_,List.getElem_mem hi,h⟩
  ·rintro ⟨m,hm,h⟩
   obtain⟨i,hi,rfl⟩:=List.mem_iff_getElem.1 hm
   exact⟨i,List.mem_range.2 (by omega),by rw[← getD_at hi];exact h⟩
 rw[e]
theorem e50 (l : Vec) (hl:l.length < 1000) (H:PH) (v:Value) (hv:NumH H v l):Cl Tryz.prog 50 [v] H emp fun r _ M'=>OwnQ M' r (diagR (fun p=>l.getD p (P4.zero,0)) l.length l.length):=by
 obtain⟨base,cap,rfl,_⟩:=id hv
 refine Cl_of (pol:=polL) Γok Tryz.func50 (by kernel_rfl) rfl ?_
 conv=>whnf
 refine dec_intro (Int.le_refl _) ?_
 conv=>whnf
 refine dec_intro (by omega) ?_
 conv=>whnf
 refine dec_intro (by omega) ?_
 conv=>whnf
 intro b0 hb0 _
 conv=>whnf
 obtain⟨s,hs⟩:∃ s,s=l.length:=⟨_,rfl⟩
 rw[← hs] at hl ⊢
 refine W_loop (pol:=polL) Γok (Nat × List Nat × PH) (fun i=>i.1≤s∧HalfM i.2.2 b0 s s i.2.1 (diagR (fun p=>l.getD p (P4.zero,0)) s i.1)) (fun i=>s - i.1) (fun i=>[(11,.v (.int .i64 i.1))]) (fun _=>[]) (fun _=>H) (fun i=>i.2.2) ⟨(0,[],_),⟨by simp,HalfM.start b0 s s emp⟩,rfl,rfl,?_⟩ ?_
 ·conv=>whnf
  repeat (refine⟨rfl,?_⟩;conv=>whnf)
  exact trivial
 ·rintro ⟨i,bs,O'⟩ ⟨h1,g⟩
  dsimp only at h1 g
  conv=>whnf
  refine if_intro (fun hc=>?_) (fun hc=>?_)
  ·have hi:i < s:=by simpa using hc
   have hbl:i=bs.length:=by rw[g.rows.len,diagR_len]
   obtain⟨b',off',rfl,hx⟩:=NumH.at hv (i:=i) (by omega)
   conv=>whnf
   refine dec_intro (by omega) ?_
   conv=>whnf
   refine⟨_,hx H O' (Sub.refl _),?_⟩
   conv=>whnf
   intro b5
   conv=>whnf
   refine dec_intro (Int.le_refl _) ?_
   conv=>whnf
   refine dec_intro (by omega) ?_
   conv=>whnf
   refine dec_intro (by omega) ?_
   conv=>whnf
   intro b hb hO
   conv=>whnf
   refine dec_intro (by omega) ?_
   conv=>whnf
   obtain⟨cs,q1,q2,g2⟩:=g.row hbl hi hO
   refine⟨cs,_,q1,q2,?_⟩
   conv=>whnf
   have hml:i=(diagR (fun p=>l.getD p (P4.zero,0)) s i).length:=(diagR_len _ _ _).symm
   have him:i < (diagR (fun p=>l.getD p (P4.zero,0)) s i++[zeros s]).length:=by rw[List.length_append,diagR_len];simp
   obtain⟨b2,hb2,hne,hl2,hOb,hrd⟩:=g2.at him H
   have hk:i < ((diagR (fun p=>l.getD p (P4.zero,0)) s i++[zeros s])[i]).length:=by rw[hl2];exact hi
   have g3:=g2.setN l[i] hb2 him hk
   have hgd:l[i]=l.getD i (P4.zero,0):=by simp[List.getD_eq_getElem?_getD,List.getElem?_eq_getElem (show i < l.length by omega)]
   have hdm:diagR (fun p=>l.getD p (P4.zero,0)) s i++[(zeros s).set i l[i]]=diagR (fun p=>l.getD p (P4.zero,0)) s (i+1):=by rw[diagR_succ,hgd]
   rw[setM_last _ _ hml,hdm] at g3
   refine W_draw (pol:=polL) Γok mixes [(0,.pendO),(1,.pendO),(2,.pendO),(3,.pendO),(4,.pendO),(5,.pendO),(6,.pendO),(7,.lock)] 31 (by kernel_rfl) rfl ?_
   conv=>whnf
   refine dec_intro (by omega) ?_
   conv=>whnf
   refine⟨_,hrd,?_⟩
   conv=>whnf
   refine dec_intro (by omega) ?_
   conv=>whnf
   refine⟨_,_,hOb,?_,?_⟩
   ·show _≤(cellsN _).length
    rw[cellsN_length,hl2]
    simp only[Int.toNat_natCast,List.length_cons,List.length_nil]
    omega
   conv=>whnf
   refine⟨(i+1,bs++[b],_),⟨hi,g3⟩,by dsimp only;omega,?_⟩
   refine⟨rfl,rfl,?_⟩
   conv=>whnf
   repeat (refine⟨rfl,?_⟩;conv=>whnf)
   refine⟨by show En.v (.int .i64 (IntKind.i64.wrap (i+1)))=_;rw[wrap_id (by omega) (by omega)];rfl,?_⟩
   conv=>whnf
   repeat (refine⟨rfl,?_⟩;conv=>whnf)
   exact trivial
  ·have hi:i=s:=by
    have h:=of_decide_eq_false hc
    omega
   subst hi
   conv=>whnf
   exact .inr ⟨i,i,by omega,by omega,g.own (diagR_len _ _ _)⟩
theorem e43 (l : List Mx) (hl:l.length < 1000000) (hm:∀ m∈l,m.length < 1000000∧∀ r∈m,r.length < 1000000) (H:PH) (u v:Value) (hu:MatsH H u l) (hv:MatsH H v l):Cl Tryz.prog 43 [u,v,.func (.func 18) ⟨[]⟩ ⟨[]⟩] H emp fun r _ _=>r=.bool true:=by
 obtain⟨ub,uc,rfl⟩:=hu.val
 obtain⟨vb,vc,rfl⟩:=hv.val
 refine Cl_of (pol:=polL) Γok Tryz.func43 (by kernel_rfl) rfl ?_
 conv=>whnf
 refine if_intro (fun h=>?_) (fun _=>?_)
 ·simp at h
 conv=>whnf
 refine W_loop (pol:=polL) Γok (Nat × PH) (fun i=>i.1≤l.length∧Sub H i.2) (fun i=>l.length - i.1) (fun i=>[(17,.v (.int .i64 i.1))]) (fun _=>[]) (fun i=>i.2) (fun _=>emp) ⟨(0,H),⟨by simp,Sub.refl _⟩,rfl,rfl,?_⟩ ?_
 ·conv=>whnf
  repeat (refine⟨rfl,?_⟩;conv=>whnf)
  exact trivial
 rintro ⟨i,Hi⟩ ⟨h1,hs⟩
 dsimp only at h1 hs
 conv=>whnf
 refine if_intro (fun hc=>?_) (fun hc=>?_)
 ·have hi:i < l.length:=by
   have:=of_decide_eq_true hc
   omega
  obtain⟨b1,o1,x,rfl,hr1,hx⟩:=(hu.up hs).rd hi
  obtain⟨b2,o2,y,rfl,hr2,hy⟩:=(hv.up hs).rd hi
  obtain⟨k1,k2⟩:=hm _ (List.getElem_mem hi)
  conv=>whnf
  refine dec_intro (by omega) ?_
  conv=>whnf
  refine⟨_,hr1 _,?_⟩
  conv=>whnf
  refine dec_intro (by omega) ?_
  conv=>whnf
  refine⟨_,hr2 _,?_⟩
  conv=>whnf
  have he:=e18 l[i] l[i] Hi x y hx hy k1 k2
  rw[eqM_refl] at he
  refine he.val fun Ha sa=>?_
  conv=>whnf
  refine⟨(i+1,Ha),⟨by dsimp only;omega,hs.trans sa⟩,by dsimp only;omega,?_⟩
  refine⟨rfl,rfl,?_⟩
  conv=>whnf
  repeat (refine⟨rfl,?_⟩;conv=>whnf)
  refine⟨by show En.v (.int .i64 (IntKind.i64.wrap (i+1)))=_;rw[wrap_id (by omega) (by omega)];rfl,?_⟩
  conv=>whnf
  repeat (refine⟨rfl,?_⟩;conv=>whnf)
  exact trivial
 conv=>whnf
def nu (a k : Int):P4 × Int:=(⟨a,0,0,0⟩,k)
def mHalf : Mx:=[[nu 1 2,nu 0 0],[nu 0 0,nu 1 2]]
def mFull : Mx:=[[nu 1 2,nu 1 2],[nu 1 2,nu 1 2]]
def mBell : Mx:=[[nu 1 2,nu 0 0,nu 0 0,nu 1 2],[nu 0 0,nu 0 0,nu 0 0,nu 0 0],[nu 0 0,nu 0 0,nu 0 0,nu 0 0],[nu 1 2,nu 0 0,nu 0 0,nu 1 2]]
def mQuart : Mx:=[[nu 1 4,nu 0 0,nu 0 0,nu 0 0],[nu 0 0,nu 1 4,nu 0 0,nu 0 0],[nu 0 0,nu 0 0,nu 1 4,nu 0 0],[nu 0 0,nu 0 0,nu 0 0,nu 1 4]]
def mOne : Mx:=[[nu 1 0,nu 0 0],[nu 0 0,nu 0 0]]
def mTwo : Mx:=[[nu 0 0,nu 0 0],[nu 0 0,nu 1 0]]
def mH0 : Mx:=[[nu 1 2,nu 0 0],[nu 0 0,nu 0 0]]
def mH1 : Mx:=[[nu 0 0,nu 0 0],[nu 0 0,nu 1 2]]
def cMeas : Ct:=⟨1,1,[⟨13,[0],0,0⟩]⟩
theorem x_of : ofV [nu 1 1,nu 1 1]=(mFull,0):=by decide +kernel
theorem x_forget : forgetM mFull 0=(mHalf,0):=by decide +kernel
theorem x_mixed : mixedI 1=(mHalf,0):=by decide +kernel
theorem x_bell : ofV [nu 1 1,nu 0 0,nu 0 0,nu 1 1]=(mBell,0):=by decide +kernel
theorem x_out : outM mBell 1=(mHalf,0):=by decide +kernel
theorem x_purity : purityM mHalf=(nu 1 2,0):=by decide +kernel
theorem x_reset : resetM mHalf 0=(mOne,0):=by decide +kernel
theorem x_quart : mixedI 2=(mQuart,0):=by decide +kernel
theorem x_odds : oddsM mQuart 0=(nu 1 2,0):=by decide +kernel
theorem x_run : runM cMeas mHalf=([mH0,mH1],0):=by decide +kernel
theorem x_diag1 : diagR (fun p=>[nu 1 0,nu 0 0].getD p (P4.zero,0)) 2 2=mOne:=by decide +kernel
theorem x_diag2 : diagR (fun p=>[nu 0 0,nu 1 0].getD p (P4.zero,0)) 2 2=mTwo:=by decide +kernel
theorem x_diag3 : diagR (fun p=>[nu 1 2,nu 1 2].getD p (P4.zero,0)) 2 2=mHalf:=by decide +kernel
theorem x_diag4 : diagR (fun p=>[nu 1 2,nu 0 0].getD p (P4.zero,0)) 2 2=mH0:=by decide +kernel
theorem x_diag5 : diagR (fun p=>[nu 0 0,nu 1 2].getD p (P4.zero,0)) 2 2=mH1:=by decide +kernel
theorem x_mix : mixM mOne mTwo (nu 1 2) (nu 1 2)=(mHalf,0):=by decide +kernel
theorem x_check : denErr [[nu 0 0,nu 1 0],[nu 0 0,nu 0 0]]=7:=by decide +kernel
def polAw : Tmp→Pol:=fun | 28=>.imm | 46=>.imm | 75=>.imm | 77=>.imm | 86=>.imm | 90=>.imm | 147=>.imm | 150=>.imm | 151=>.imm | 162=>.imm | 180=>.imm | 195=>.imm | 205=>.imm | 217=>.imm | 220=>.imm | 221=>.imm | _=>.loc
def GlobH (H : PH):Prop:=Rd H emp ⟨0,0,none⟩ 5 [.int .i64 1,.int .i64 0,.int .i64 0,.int .i64 0,.int .i64 2]∧Rd H emp ⟨1,0,none⟩ 5 [.int .i64 1,.int .i64 0,.int .i64 0,.int .i64 0,.int .i64 1]
theorem GlobH.up {H H' : PH} (h:GlobH H) (hs:Sub H H'):GlobH H':=⟨Rd_up h.1 hs,Rd_up h.2 hs⟩
theorem ints_c {H : PH} {b:Nat} {l:List Int} {n:Nat} {fr:Nat × Nat} (hb:H b=some (.cells ⟨l.map fun x=>.int .i64 x⟩ 3 fr)) (hn:n=l.length:=by rfl):IntsC H (.slice (some ⟨b,0,none⟩) n n) l:=by
 subst hn
 exact⟨_,_,rfl,Nat.le_refl _,⟨_,_,rfl,.inr ⟨b,0,_,_,_,rfl,hb,by simp[List.take_of_length_le]⟩⟩⟩
theorem gates_of {H : PH} {b n cap:Nat} {t:TypeId} {fr:Nat × Nat} {gs:List Gt} (cs:List (List Value)) (sp:List Value) (hb:H b=some (.cells ⟨cs.flatten++sp⟩ t fr)) (hl:cs.length=gs.length) (hn:n=gs.length) (hc:∀ (i:Nat) g c,gs[i]?=some g→cs[i]?=some c→GateC H g c):GatesH H (.slice (some ⟨b,0,none⟩) n cap) gs:=by
 subst hn
 refine⟨cs,hl,⟨fun c hcm=>?_,⟨_,_,by rw[hl],.inr ⟨b,0,_,_,_,rfl,hb,by simp⟩⟩⟩,hc⟩
 obtain⟨i,hi,rfl⟩:=List.mem_iff_getElem.1 hcm
 obtain⟨w,e,_⟩:=hc i _ _ (List.getElem?_eq_getElem (by omega)) (List.getElem?_eq_getElem hi)
 rw[e]
 rfl
theorem gates1 {H : PH} {b cap:Nat} {t:TypeId} {fr:Nat × Nat} {g1:Gt} {w1:Value} (hb:H b=some (.cells ⟨[.int .i64 g1.kind,w1,.int .i64 g1.bit,.int .i64 g1.cond]⟩ t fr)) (h1:IntsC H w1 g1.ws):GatesH H (.slice (some ⟨b,0,none⟩) 1 cap) [g1]:=
 gates_of [[.int .i64 g1.kind,w1,.int .i64 g1.bit,.int .i64 g1.cond]] [] (by simpa using hb) rfl rfl fun i g c hg hc=>by
  match i with
  | 0=>cases hg;cases hc;exact⟨_,rfl,h1⟩
theorem e50h (l : Vec) (m:Mx) (h:diagR (fun p=>l.getD p (P4.zero,0)) l.length l.length=m) (hl:l.length < 1000) (H:PH) (v:Value) (hv:NumH H v l):Cl Tryz.prog 50 [v] H emp fun r H' _=>MatH H' r m:=
 (e50 l hl H v hv).repart fun r H' M' _ hd hq=>by
  rw[h] at hq
  exact⟨_,_,.all hd,OwnQ.share hd hq⟩
theorem OutH.of {H : PH} {r:Value} {x y:Mx × Int} (h:OutH H r x) (e:x=y):OutH H r y:=e ▸ h
inductive As where
 | any
 | eq (v:Value)
 | mat (m:Mx)
 | num (l:Vec)
 | out (x:Mx × Int)
def As.holds (H : PH) (x:Value):As→Prop
 | .any=>True
 | .eq v=>x=v
 | .mat m=>MatH H x m
 | .num l=>(∃ b,x=.slice (some ⟨b,0,none⟩) l.length l.length)∧NumH H x l
 | .out y=>OutH H x y
theorem As.up {H H' : PH} {x:Value} {s:As} (h:s.holds H x) (hs:Sub H H'):s.holds H' x:=by
 cases s with
 | any=>exact trivial
 | eq v=>exact h
 | mat m=>exact MatH.up h hs
 | num l=>exact⟨h.1,NumH.up h.2 hs⟩
 | out y=>
  obtain⟨u,e,h⟩:=h
  exact⟨u,e,h.up hs⟩
def As.yes : As→Bool
 | .eq (.bool b)=>b
 | _=>false
theorem As.yes_eq {H : PH} {x:Value} {s:As} (h:s.holds H x) (hy:s.yes=true):x=.bool true:=by
 unfold As.yes at hy
 split at hy
 ·subst hy;exact h
 ·cases hy
def AsS (sps : List As):Nat→Value→PH→Prop:=fun i x H=>(sps.getD i .any).holds H x
theorem AsS.up {sps : List As} {i:Nat} {x:Value} {H H':PH} (h:AsS sps i x H) (hs:Sub H H'):AsS sps i x H':=As.up h hs
def guardsMet (ops : List Oper) (sps:List As):Bool:=ops.all fun o=>match o.guard with
 | none=>true
 | some (g,b)=>b && (sps.getD g .any).yes
theorem guards_met {ops : List Oper} {sps:List As} (h:guardsMet ops sps=true) {H1 O1:PH} (i:Nat) (o:Oper) (g:Nat) (b:Bool) (ho:ops[i]?=some o) (hg:o.guard=some (g,b)) (L:Nat→Bool) (V:Nat→Value) (H' O':PH) (hI:MI H1 O1 (AsS sps) L V H' O') (hL:L g=true):V g=.bool b:=by
 have:=List.all_eq_true.1 h o (List.mem_of_getElem? ho)
 rw[hg] at this
 simp only[Bool.and_eq_true] at this
 rw[this.1]
 exact As.yes_eq (hI.sp g hL) this.2
def mBad : Mx:=[[nu 0 0,nu 1 0],[nu 0 0,nu 0 0]]
def spR12 : List As:=[.eq (.agg ⟨[.int .i64 1,.int .i64 0,.int .i64 0,.int .i64 0,.int .i64 0]⟩),.eq (.agg ⟨[.int .i64 0,.int .i64 0,.int .i64 0,.int .i64 0,.int .i64 0]⟩),.num [nu 1 0,nu 0 0],.mat mOne,.eq (.agg ⟨[.int .i64 0,.int .i64 0,.int .i64 0,.int .i64 0,.int .i64 0]⟩),.eq (.agg ⟨[.int .i64 1,.int .i64 0,.int .i64 0,.int .i64 0,.int .i64 0]⟩),.num [nu 0 0,nu 1 0],.mat mTwo,.eq (.agg ⟨[.int .i64 1,.int .i64 0,.int .i64 0,.int .i64 0,.int .i64 2]⟩),.eq (.agg ⟨[.int .i64 1,.int .i64 0,.int .i64 0,.int .i64 0,.int .i64 2]⟩),.out (mHalf,0),.out (mHalf,0),.mat mHalf,.eq (.int .i64 0),.mat mHalf,.eq (.int .i64 0)]
def spR15 (lb lo lc : Nat):List As:=[.mat mFull,.eq (.agg ⟨[.int .i64 1,.int .i64 0,.int .i64 0,.int .i64 0,.int .i64 2]⟩),.eq (.agg ⟨[.int .i64 1,.int .i64 0,.int .i64 0,.int .i64 0,.int .i64 2]⟩),.num [nu 1 2,nu 1 2],.eq (.agg ⟨[.int .i64 1,.int .i64 0,.int .i64 0,.int .i64 0,.int .i64 2]⟩),.eq (.agg ⟨[.int .i64 1,.int .i64 0,.int .i64 0,.int .i64 0,.int .i64 2]⟩),.num [nu 1 2,nu 1 2],.mat mFull,.eq (.bool true),.eq (.bool true),.mat mHalf,.mat mHalf,.eq (.bool true),.eq (.bool true),.eq (.bool true),.mat mHalf,.eq (.agg ⟨[.int .i64 1,.int .i64 0,.int .i64 0,.int .i64 0,.int .i64 2]⟩),.eq (.agg ⟨[.int .i64 1,.int .i64 0,.int .i64 0,.int .i64 0,.int .i64 2]⟩),.num [nu 1 2,nu 1 2],.mat mHalf,.eq (.bool true),.eq (.bool true),.eq (.bool true),.mat mHalf,.mat mHalf,.eq (.bool true),.eq (.bool true),.eq (.bool true),.eq (.agg ⟨[.int .i64 1,.int .i64 0,.int .i64 0,.int .i64 0,.int .i64 2]⟩),.eq (.agg ⟨[.int .i64 1,.int .i64 0,.int .i64 0,.int .i64 0,.int .i64 2]⟩),.eq (.bool true),.eq (.bool true),.eq (.bool true),.mat mOne,.eq (.agg ⟨[.int .i64 1,.int .i64 0,.int .i64 0,.int .i64 0,.int .i64 0]⟩),.eq (.agg ⟨[.int .i64 0,.int .i64 0,.int .i64 0,.int .i64 0,.int .i64 0]⟩),.num [nu 1 0,nu 0 0],.mat mOne,.eq (.bool true),.eq (.bool true),.eq (.bool true),.eq (.agg ⟨[.int .i64 1,.int .i64 0,.int .i64 0,.int .i64 0,.int .i64 2]⟩),.eq (.agg ⟨[.int .i64 1,.int .i64 0,.int .i64 0,.int .i64 0,.int .i64 2]⟩),.eq (.bool true),.eq (.bool true),.eq (.bool true),.eq (.slice (some ⟨lb,lo,none⟩) 2 lc),.eq (.pointer (some ⟨lb,lo+0*1,none⟩)),.mat mH0,.eq (.agg ⟨[.int .i64 1,.int .i64 0,.int .i64 0,.int .i64 0,.int .i64 2]⟩),.eq (.agg ⟨[.int .i64 0,.int .i64 0,.int .i64 0,.int .i64 0,.int .i64 0]⟩),.num [nu 1 2,nu 0 0],.mat mH0,.eq (.bool true),.eq (.bool true),.eq (.bool true),.eq (.slice (some ⟨lb,lo,none⟩) 2 lc),.eq (.pointer (some ⟨lb,lo+1*1,none⟩)),.mat mH1,.eq (.agg ⟨[.int .i64 0,.int .i64 0,.int .i64 0,.int .i64 0,.int .i64 0]⟩),.eq (.agg ⟨[.int .i64 1,.int .i64 0,.int .i64 0,.int .i64 0,.int .i64 2]⟩),.num [nu 0 0,nu 1 2],.mat mH1,.eq (.bool true),.eq (.bool true),.eq (.bool true),.mat mHalf,.mat mHalf,.eq (.bool true),.eq (.bool true),.eq (.bool true),.eq (.agg ⟨[.int .i64 0,.int .i64 0,.int .i64 0,.int .i64 0,.int .i64 0]⟩),.eq (.agg ⟨[.int .i64 1,.int .i64 0,.int .i64 0,.int .i64 0,.int .i64 0]⟩),.num [nu 0 0,nu 1 0],.eq (.agg ⟨[.int .i64 0,.int .i64 0,.int .i64 0,.int .i64 0,.int .i64 0]⟩),.eq (.agg ⟨[.int .i64 0,.int .i64 0,.int .i64 0,.int .i64 0,.int .i64 0]⟩),.num [nu 0 0,nu 0 0],.mat mBad,.eq (.int .i64 7),.eq (.bool true),.eq (.bool true),.eq (.bool true)]
set_option maxHeartbeats 8000000 in
theorem e9 (H : PH) (hG:GlobH H):Cl Tryz.prog 9 [] H emp fun r _ _=>r=.bool true:=by
 refine Cl_of (pol:=polAw) Γok Tryz.func9 (by kernel_rfl) rfl ?_
 conv=>whnf
 intro b1
 conv=>whnf
 refine⟨_,Rd.anyO (O:=emp) hG.2,?_⟩
 conv=>whnf
 refine⟨_,Rd.anyO (O:=emp) hG.2,?_⟩
 conv=>whnf
 intro k1 hk1 ok1
 conv=>whnf
 refine (Cl.outH (e15 [nu 1 1,nu 1 1] (by decide) _ _ (pair_num (x:=nu 1 1) (y:=nu 1 1) (ins_same _ _ _)))).use fun r H1 s1 hr=>?_
 obtain⟨_,hr⟩:=hr
 rw[x_of] at hr
 obtain⟨va,rfl,hA⟩:=hr
 obtain⟨ab,ac,rfl⟩:=MatH.sl hA
 replace hG:=hG.up ((sub_ins _ _ hk1).trans s1)
 conv=>whnf
 refine (Cl.outH (e31 mFull 0 (by decide) _ _ hA)).use fun r H2 s2 hr=>?_
 obtain⟨_,hr⟩:=hr
 rw[x_forget] at hr
 obtain⟨vb,rfl,hB⟩:=hr
 obtain⟨bb,bc,rfl⟩:=MatH.sl hB
 replace hG:=hG.up s2
 replace hA:=hA.up s2
 conv=>whnf
 refine (Cl.outH (e16 1 (by decide) _)).use fun r H3 s3 hr=>?_
 obtain⟨_,hr⟩:=hr
 rw[x_mixed] at hr
 obtain⟨vm,rfl,hM⟩:=hr
 obtain⟨mb,mc,rfl⟩:=MatH.sl hM
 replace hG:=hG.up s3
 replace hA:=hA.up s3
 replace hB:=hB.up s3
 conv=>whnf
 refine⟨_,Rd.anyO (O:=emp) hG.2,?_⟩
 conv=>whnf
 refine⟨_,Rd.anyO (O:=emp) hG.2,?_⟩
 conv=>whnf
 intro k2 hk2 ok2
 conv=>whnf
 refine (Cl.outH (e15 [nu 1 1,nu 0 0,nu 0 0,nu 1 1] (by decide) _ _ (quad_num (x:=nu 1 1) (y:=nu 0 0) (z:=nu 0 0) (t:=nu 1 1) (ins_same _ _ _)))).use fun r H4 s4 hr=>?_
 obtain⟨_,hr⟩:=hr
 rw[x_bell] at hr
 obtain⟨vc,rfl,hC⟩:=hr
 obtain⟨cb,cc,rfl⟩:=MatH.sl hC
 have t4:=(sub_ins _ _ hk2).trans s4
 replace hG:=hG.up t4
 replace hA:=hA.up t4
 replace hB:=hB.up t4
 replace hM:=hM.up t4
 conv=>whnf
 refine (Cl.outH (e33 mBell 1 (by decide) _ _ hC)).use fun r H5 s5 hr=>?_
 obtain⟨_,hr⟩:=hr
 rw[x_out] at hr
 obtain⟨vd,rfl,hD⟩:=hr
 obtain⟨db,dc,rfl⟩:=MatH.sl hD
 replace hG:=hG.up s5
 replace hA:=hA.up s5
 replace hB:=hB.up s5
 replace hM:=hM.up s5
 conv=>whnf
 refine (e35 mHalf (by decide) _ _ hD).val fun H6 s6=>?_
 rw[x_purity]
 replace hG:=hG.up s6
 replace hA:=hA.up s6
 replace hB:=hB.up s6
 replace hM:=hM.up s6
 replace hD:=hD.up s6
 conv=>whnf
 intro b12
 conv=>whnf
 refine (Cl.outH (e32 mHalf 0 (by decide) _ _ hM)).use fun r H7 s7 hr=>?_
 obtain⟨_,hr⟩:=hr
 rw[x_reset] at hr
 obtain⟨vr,rfl,hR⟩:=hr
 obtain⟨rb,rc,rfl⟩:=MatH.sl hR
 replace hG:=hG.up s7
 replace hA:=hA.up s7
 replace hB:=hB.up s7
 replace hM:=hM.up s7
 replace hD:=hD.up s7
 conv=>whnf
 refine (Cl.outH (e16 2 (by decide) _)).use fun r H8 s8 hr=>?_
 obtain⟨_,hr⟩:=hr
 rw[x_quart] at hr
 obtain⟨vq,rfl,hQ⟩:=hr
 obtain⟨qb,qc,rfl⟩:=MatH.sl hQ
 conv=>whnf
 refine (e34 mQuart 0 (by decide) _ _ hQ).val fun H9 s9=>?_
 rw[x_odds]
 have t9:=s8.trans s9
 replace hG:=hG.up t9
 replace hA:=hA.up t9
 replace hB:=hB.up t9
 replace hM:=hM.up t9
 replace hD:=hD.up t9
 replace hR:=hR.up t9
 conv=>whnf
 intro b18
 conv=>whnf
 intro k3 hk3 ok3
 conv=>whnf
 have i3:=sub_ins H9 (.cells ⟨[.int .i64 0]⟩ 3 (0,0)) hk3
 refine (e51 13 _ [0] _ (ints_c (l:=[0]) (ins_same _ _ _))).val fun H10 s10=>?_
 have hw:IntsC H10 (.slice (some ⟨k3,0,none⟩) 1 1) [0]:=ints_c (l:=[0]) (s10 _ _ (ins_same _ _ _))
 conv=>whnf
 intro k4 hk4 ok4
 conv=>whnf
 have t10:=((sub_ins _ _ hk3).trans s10).trans (sub_ins H10 (.cells ⟨[.int .i64 13,.slice (some ⟨k3,0,none⟩) 1 1,.int .i64 0,.int .i64 0]⟩ 42 (0,0)) hk4)
 replace hG:=hG.up t10
 replace hA:=hA.up t10
 replace hB:=hB.up t10
 replace hM:=hM.up t10
 replace hD:=hD.up t10
 replace hR:=hR.up t10
 refine (e41p cMeas mHalf ⟨by decide,by decide⟩ (by decide) _ _ _ ⟨_,rfl,gates1 (g1:=⟨13,[0],0,0⟩) (ins_same _ _ _) (hw.up (sub_ins _ _ hk4))⟩ hM).use fun r H11 s11 hr=>?_
 obtain⟨_,hr⟩:=hr
 rw[x_run] at hr
 obtain⟨lb0,lc,rfl,hlc,hl⟩:=hr
 obtain⟨lb,lo,u0,rfl,hru0,hu0⟩:=MatsH.rd hl (i:=0) (by decide)
 obtain⟨_,_,u1,ee,hru1,hu1⟩:=MatsH.rd hl (i:=1) (by decide)
 cases ee
 replace hG:=hG.up s11
 replace hA:=hA.up s11
 replace hB:=hB.up s11
 replace hM:=hM.up s11
 replace hD:=hD.up s11
 replace hR:=hR.up s11
 conv=>whnf
 refine W_freeG (pol:=polAw) Γok mixes 225 (by kernel_rfl) rfl (MI H11 emp (AsS spR12)) ⟨Sub.refl _,rfl,fun i h=>(by cases h)⟩ (guards_met (by kernel_rfl)) ?_ ?_
 ·intro i op ho' L V H' O' hI hLi hsee
  have hi:i < 16:=(List.getElem?_eq_some_iff.1 ho').1
  have get:∀ j,seesB _ op j=true→AsS spR12 j (V j) H':=fun j h=>hI.sp j (hsee j h)
  have stp:=fun {H'':PH} {v:Value} (hs:Sub H' H'') hv=>MI.step (S:=AsS spR12) (i:=i) (v:=v) (fun h s=>AsS.up h s) hI hs hv
  have hO':=hI.own
  subst hO'
  rcases (show i=0∨i=1∨i=2∨i=3∨i=4∨i=5∨i=6∨i=7∨i=8∨i=9∨i=10∨i=11∨i=12∨i=13∨i=14∨i=15 by omega) with rfl | rfl | rfl | rfl | rfl | rfl | rfl | rfl | rfl | rfl | rfl | rfl | rfl | rfl | rfl | rfl
  ·cases ho'
   conv=>whnf
   exact⟨⟨_,rfl⟩,_,rfl,stp (Sub.refl _) rfl⟩
  ·cases ho'
   conv=>whnf
   exact⟨⟨_,rfl⟩,_,rfl,stp (Sub.refl _) rfl⟩
  ·cases ho'
   have h0:V 0=(.agg ⟨[.int .i64 1,.int .i64 0,.int .i64 0,.int .i64 0,.int .i64 0]⟩):=get 0 (by kernel_rfl)
   have h1:V 1=(.agg ⟨[.int .i64 0,.int .i64 0,.int .i64 0,.int .i64 0,.int .i64 0]⟩):=get 1 (by kernel_rfl)
   conv=>whnf
   rw[h0]
   conv=>whnf
   rw[h1]
   conv=>whnf
   intro b hb hO
   conv=>whnf
   exact⟨⟨_,rfl⟩,_,rfl,stp (sub_ins _ _ hb) ⟨⟨b,rfl⟩,(pair_num (x:=nu 1 0) (y:=nu 0 0) (ins_same _ _ _))⟩⟩
  ·cases ho'
   obtain⟨_,h2⟩:(∃ b,V 2=.slice (some ⟨b,0,none⟩) 2 2)∧NumH H' (V 2) [nu 1 0,nu 0 0]:=get 2 (by kernel_rfl)
   conv=>whnf
   refine (e50h [nu 1 0,nu 0 0] mOne x_diag1 (by decide) _ _ h2).use fun v5 H5 s5 hv5=>?_
   obtain⟨_,hv5⟩:=hv5
   conv=>whnf
   exact⟨⟨_,rfl⟩,_,rfl,stp s5 hv5⟩
  ·cases ho'
   conv=>whnf
   exact⟨⟨_,rfl⟩,_,rfl,stp (Sub.refl _) rfl⟩
  ·cases ho'
   conv=>whnf
   exact⟨⟨_,rfl⟩,_,rfl,stp (Sub.refl _) rfl⟩
  ·cases ho'
   have h4:V 4=(.agg ⟨[.int .i64 0,.int .i64 0,.int .i64 0,.int .i64 0,.int .i64 0]⟩):=get 4 (by kernel_rfl)
   have h5:V 5=(.agg ⟨[.int .i64 1,.int .i64 0,.int .i64 0,.int .i64 0,.int .i64 0]⟩):=get 5 (by kernel_rfl)
   conv=>whnf
   rw[h4]
   conv=>whnf
   rw[h5]
   conv=>whnf
   intro b hb hO
   conv=>whnf
   exact⟨⟨_,rfl⟩,_,rfl,stp (sub_ins _ _ hb) ⟨⟨b,rfl⟩,(pair_num (x:=nu 0 0) (y:=nu 1 0) (ins_same _ _ _))⟩⟩
  ·cases ho'
   obtain⟨_,h6⟩:(∃ b,V 6=.slice (some ⟨b,0,none⟩) 2 2)∧NumH H' (V 6) [nu 0 0,nu 1 0]:=get 6 (by kernel_rfl)
   conv=>whnf
   refine (e50h [nu 0 0,nu 1 0] mTwo x_diag2 (by decide) _ _ h6).use fun v5 H5 s5 hv5=>?_
   obtain⟨_,hv5⟩:=hv5
   conv=>whnf
   exact⟨⟨_,rfl⟩,_,rfl,stp s5 hv5⟩
  ·cases ho'
   conv=>whnf
   refine⟨_,Rd.anyO (O:=emp) (GlobH.up hG hI.sub).1,?_⟩
   conv=>whnf
   exact⟨⟨_,rfl⟩,_,rfl,stp (Sub.refl _) rfl⟩
  ·cases ho'
   conv=>whnf
   refine⟨_,Rd.anyO (O:=emp) (GlobH.up hG hI.sub).1,?_⟩
   conv=>whnf
   exact⟨⟨_,rfl⟩,_,rfl,stp (Sub.refl _) rfl⟩
  ·cases ho'
   have h3:MatH H' (V 3) mOne:=get 3 (by kernel_rfl)
   have h7:MatH H' (V 7) mTwo:=get 7 (by kernel_rfl)
   have h8:V 8=(.agg ⟨[.int .i64 1,.int .i64 0,.int .i64 0,.int .i64 0,.int .i64 2]⟩):=get 8 (by kernel_rfl)
   have h9:V 9=(.agg ⟨[.int .i64 1,.int .i64 0,.int .i64 0,.int .i64 0,.int .i64 2]⟩):=get 9 (by kernel_rfl)
   conv=>whnf
   rw[h8,h9]
   refine (Cl.outH (e17 mOne mTwo (nu 1 2) (nu 1 2) (by decide) (by decide) _ _ _ h3 h7)).use fun v5 H5 s5 hv5=>?_
   obtain⟨_,hv5⟩:=hv5
   conv=>whnf
   exact⟨⟨_,rfl⟩,_,rfl,stp s5 (hv5.of x_mix)⟩
  ·cases ho'
   obtain⟨u10,h10,k10⟩:OutH H' (V 10) (mHalf,0):=get 10 (by kernel_rfl)
   conv=>whnf
   exact⟨⟨_,rfl⟩,_,rfl,stp (Sub.refl _) ⟨u10,h10,k10⟩⟩
  ·cases ho'
   obtain⟨u11,h11,k11⟩:OutH H' (V 11) (mHalf,0):=get 11 (by kernel_rfl)
   conv=>whnf
   rw[h11]
   conv=>whnf
   exact⟨⟨_,rfl⟩,_,rfl,stp (Sub.refl _) k11⟩
  ·cases ho'
   obtain⟨u11,h11,k11⟩:OutH H' (V 11) (mHalf,0):=get 11 (by kernel_rfl)
   conv=>whnf
   rw[h11]
   conv=>whnf
   exact⟨⟨_,rfl⟩,_,rfl,stp (Sub.refl _) rfl⟩
  ·cases ho'
   have h12:MatH H' (V 12) mHalf:=get 12 (by kernel_rfl)
   conv=>whnf
   exact⟨⟨_,rfl⟩,_,rfl,stp (Sub.refl _) h12⟩
  ·cases ho'
   have h13:V 13=.int .i64 0:=get 13 (by kernel_rfl)
   conv=>whnf
   exact⟨⟨_,rfl⟩,_,rfl,stp (Sub.refl _) h13⟩
 ·intro L V H' O' hI hall
  have hO12:=hI.own
  subst hO12
  have hX:MatH H' (V 14) mHalf:=hI.sp 14 (hall 14 (by decide))
  have e15:V 15=.int .i64 0:=hI.sp 15 (hall 15 (by decide))
  have s12:=hI.sub
  clear hI hall
  conv=>whnf
  rw[e15]
  conv=>whnf
  obtain⟨Hq,hHq⟩:∃ Hq,Hq=H':=⟨_,rfl⟩
  rw[← hHq] at s12 hX ⊢
  clear hHq
  replace hG:=hG.up s12
  replace hA:=hA.up s12
  replace hB:=hB.up s12
  replace hM:=hM.up s12
  replace hD:=hD.up s12
  replace hR:=hR.up s12
  replace hu0:=hu0.up s12
  replace hu1:=hu1.up s12
  have hru0:∀ O,Rd Hq O ⟨lb,lo+0*1,none⟩ 1 [u0]:=fun O=>(Rd_up (hru0 emp) s12).anyO
  have hru1:∀ O,Rd Hq O ⟨lb,lo+1*1,none⟩ 1 [u1]:=fun O=>(Rd_up (hru1 emp) s12).anyO
  refine W_freeG (pol:=polAw) Γok mixes 225 (by kernel_rfl) rfl (MI Hq emp (AsS (spR15 lb lo lc))) ⟨Sub.refl _,rfl,fun i h=>(by cases h)⟩ (guards_met (by kernel_rfl)) ?_ ?_
  ·intro i op ho' L V H' O' hI hLi hsee
   have hi:i < 82:=(List.getElem?_eq_some_iff.1 ho').1
   have get:∀ j,seesB _ op j=true→AsS (spR15 lb lo lc) j (V j) H':=fun j h=>hI.sp j (hsee j h)
   have stp:=fun {H'':PH} {v:Value} (hs:Sub H' H'') hv=>MI.step (S:=AsS (spR15 lb lo lc)) (i:=i) (v:=v) (fun h s=>AsS.up h s) hI hs hv
   have hO':=hI.own
   subst hO'
   rcases (show i=0∨i=1∨i=2∨i=3∨i=4∨i=5∨i=6∨i=7∨i=8∨i=9∨i=10∨i=11∨i=12∨i=13∨i=14∨i=15∨i=16∨i=17∨i=18∨i=19∨i=20∨i=21∨i=22∨i=23∨i=24∨i=25∨i=26∨i=27∨i=28∨i=29∨i=30∨i=31∨i=32∨i=33∨i=34∨i=35∨i=36∨i=37∨i=38∨i=39∨i=40∨i=41∨i=42∨i=43∨i=44∨i=45∨i=46∨i=47∨i=48∨i=49∨i=50∨i=51∨i=52∨i=53∨i=54∨i=55∨i=56∨i=57∨i=58∨i=59∨i=60∨i=61∨i=62∨i=63∨i=64∨i=65∨i=66∨i=67∨i=68∨i=69∨i=70∨i=71∨i=72∨i=73∨i=74∨i=75∨i=76∨i=77∨i=78∨i=79∨i=80∨i=81 by omega) with rfl | rfl | rfl | rfl | rfl | rfl | rfl | rfl | rfl | rfl | rfl | rfl | rfl | rfl | rfl | rfl | rfl | rfl | rfl | rfl | rfl | rfl | rfl | rfl | rfl | rfl | rfl | rfl | rfl | rfl | rfl | rfl | rfl | rfl | rfl | rfl | rfl | rfl | rfl | rfl | rfl | rfl | rfl | rfl | rfl | rfl | rfl | rfl | rfl | rfl | rfl | rfl | rfl | rfl | rfl | rfl | rfl | rfl | rfl | rfl | rfl | rfl | rfl | rfl | rfl | rfl | rfl | rfl | rfl | rfl | rfl | rfl | rfl | rfl | rfl | rfl | rfl | rfl | rfl | rfl | rfl | rfl
   ·cases ho'
    conv=>whnf
    exact⟨⟨_,rfl⟩,_,rfl,stp (Sub.refl _) (hA.up hI.sub)⟩
   ·cases ho'
    conv=>whnf
    refine⟨_,Rd.anyO (O:=emp) (GlobH.up hG hI.sub).1,?_⟩
    conv=>whnf
    exact⟨⟨_,rfl⟩,_,rfl,stp (Sub.refl _) rfl⟩
   ·cases ho'
    conv=>whnf
    refine⟨_,Rd.anyO (O:=emp) (GlobH.up hG hI.sub).1,?_⟩
    conv=>whnf
    exact⟨⟨_,rfl⟩,_,rfl,stp (Sub.refl _) rfl⟩
   ·cases ho'
    have h1:V 1=(.agg ⟨[.int .i64 1,.int .i64 0,.int .i64 0,.int .i64 0,.int .i64 2]⟩):=get 1 (by kernel_rfl)
    have h2:V 2=(.agg ⟨[.int .i64 1,.int .i64 0,.int .i64 0,.int .i64 0,.int .i64 2]⟩):=get 2 (by kernel_rfl)
    conv=>whnf
    rw[h1]
    conv=>whnf
    rw[h2]
    conv=>whnf
    intro b hb hO
    conv=>whnf
    exact⟨⟨_,rfl⟩,_,rfl,stp (sub_ins _ _ hb) ⟨⟨b,rfl⟩,(pair_num (x:=nu 1 2) (y:=nu 1 2) (ins_same _ _ _))⟩⟩
   ·cases ho'
    conv=>whnf
    refine⟨_,Rd.anyO (O:=emp) (GlobH.up hG hI.sub).1,?_⟩
    conv=>whnf
    exact⟨⟨_,rfl⟩,_,rfl,stp (Sub.refl _) rfl⟩
   ·cases ho'
    conv=>whnf
    refine⟨_,Rd.anyO (O:=emp) (GlobH.up hG hI.sub).1,?_⟩
    conv=>whnf
    exact⟨⟨_,rfl⟩,_,rfl,stp (Sub.refl _) rfl⟩
   ·cases ho'
    have h4:V 4=(.agg ⟨[.int .i64 1,.int .i64 0,.int .i64 0,.int .i64 0,.int .i64 2]⟩):=get 4 (by kernel_rfl)
    have h5:V 5=(.agg ⟨[.int .i64 1,.int .i64 0,.int .i64 0,.int .i64 0,.int .i64 2]⟩):=get 5 (by kernel_rfl)
    conv=>whnf
    rw[h4]
    conv=>whnf
    rw[h5]
    conv=>whnf
    intro b hb hO
    conv=>whnf
    exact⟨⟨_,rfl⟩,_,rfl,stp (sub_ins _ _ hb) ⟨⟨b,rfl⟩,(pair_num (x:=nu 1 2) (y:=nu 1 2) (ins_same _ _ _))⟩⟩
   ·cases ho'
    obtain⟨⟨x1,h3⟩,n3⟩:(∃ b,V 3=.slice (some ⟨b,0,none⟩) 2 2)∧NumH H' (V 3) [nu 1 2,nu 1 2]:=get 3 (by kernel_rfl)
    obtain⟨⟨x2,h6⟩,n6⟩:(∃ b,V 6=.slice (some ⟨b,0,none⟩) 2 2)∧NumH H' (V 6) [nu 1 2,nu 1 2]:=get 6 (by kernel_rfl)
    rw[h3] at n3
    rw[h6] at n6
    conv=>whnf
    rw[h3]
    conv=>whnf
    rw[h6]
    conv=>whnf
    intro b hb hO
    conv=>whnf
    exact⟨⟨_,rfl⟩,_,rfl,stp (sub_ins _ _ hb) (mat2 (ins_same _ _ _) (n3.up (sub_ins _ _ hb)) (n6.up (sub_ins _ _ hb)))⟩
   ·cases ho'
    have h0:MatH H' (V 0) mFull:=get 0 (by kernel_rfl)
    have h7:MatH H' (V 7) mFull:=get 7 (by kernel_rfl)
    conv=>whnf
    refine (c52c mFull mFull (eqM_refl _) (by decide) (by decide) _ _ _ h0 h7).val fun H5 s5=>?_
    conv=>whnf
    exact⟨⟨_,rfl⟩,_,rfl,stp s5 rfl⟩
   ·cases ho'
    have h8:V 8=.bool true:=get 8 (by kernel_rfl)
    conv=>whnf
    exact⟨⟨_,rfl⟩,_,rfl,stp (Sub.refl _) h8⟩
   ·cases ho'
    conv=>whnf
    exact⟨⟨_,rfl⟩,_,rfl,stp (Sub.refl _) (hB.up hI.sub)⟩
   ·cases ho'
    conv=>whnf
    exact⟨⟨_,rfl⟩,_,rfl,stp (Sub.refl _) (hM.up hI.sub)⟩
   ·cases ho'
    have h10:MatH H' (V 10) mHalf:=get 10 (by kernel_rfl)
    have h11:MatH H' (V 11) mHalf:=get 11 (by kernel_rfl)
    conv=>whnf
    refine (c52c mHalf mHalf (eqM_refl _) (by decide) (by decide) _ _ _ h10 h11).val fun H5 s5=>?_
    conv=>whnf
    exact⟨⟨_,rfl⟩,_,rfl,stp s5 rfl⟩
   ·cases ho'
    have h9:V 9=.bool true:=get 9 (by kernel_rfl)
    have h12:V 12=.bool true:=get 12 (by kernel_rfl)
    conv=>whnf
    rw[h9]
    conv=>whnf
    exact⟨⟨_,rfl⟩,_,rfl,stp (Sub.refl _) h12⟩
   ·cases ho'
    have h13:V 13=.bool true:=get 13 (by kernel_rfl)
    conv=>whnf
    exact⟨⟨_,rfl⟩,_,rfl,stp (Sub.refl _) h13⟩
   ·cases ho'
    conv=>whnf
    exact⟨⟨_,rfl⟩,_,rfl,stp (Sub.refl _) (hM.up hI.sub)⟩
   ·cases ho'
    conv=>whnf
    refine⟨_,Rd.anyO (O:=emp) (GlobH.up hG hI.sub).1,?_⟩
    conv=>whnf
    exact⟨⟨_,rfl⟩,_,rfl,stp (Sub.refl _) rfl⟩
   ·cases ho'
    conv=>whnf
    refine⟨_,Rd.anyO (O:=emp) (GlobH.up hG hI.sub).1,?_⟩
    conv=>whnf
    exact⟨⟨_,rfl⟩,_,rfl,stp (Sub.refl _) rfl⟩
   ·cases ho'
    have h16:V 16=(.agg ⟨[.int .i64 1,.int .i64 0,.int .i64 0,.int .i64 0,.int .i64 2]⟩):=get 16 (by kernel_rfl)
    have h17:V 17=(.agg ⟨[.int .i64 1,.int .i64 0,.int .i64 0,.int .i64 0,.int .i64 2]⟩):=get 17 (by kernel_rfl)
    conv=>whnf
    rw[h16]
    conv=>whnf
    rw[h17]
    conv=>whnf
    intro b hb hO
    conv=>whnf
    exact⟨⟨_,rfl⟩,_,rfl,stp (sub_ins _ _ hb) ⟨⟨b,rfl⟩,(pair_num (x:=nu 1 2) (y:=nu 1 2) (ins_same _ _ _))⟩⟩
   ·cases ho'
    obtain⟨_,h18⟩:(∃ b,V 18=.slice (some ⟨b,0,none⟩) 2 2)∧NumH H' (V 18) [nu 1 2,nu 1 2]:=get 18 (by kernel_rfl)
    conv=>whnf
    refine (e50h [nu 1 2,nu 1 2] mHalf x_diag3 (by decide) _ _ h18).use fun v5 H5 s5 hv5=>?_
    obtain⟨_,hv5⟩:=hv5
    conv=>whnf
    exact⟨⟨_,rfl⟩,_,rfl,stp s5 hv5⟩
   ·cases ho'
    have h15:MatH H' (V 15) mHalf:=get 15 (by kernel_rfl)
    have h19:MatH H' (V 19) mHalf:=get 19 (by kernel_rfl)
    conv=>whnf
    refine (c52c mHalf mHalf (eqM_refl _) (by decide) (by decide) _ _ _ h15 h19).val fun H5 s5=>?_
    conv=>whnf
    exact⟨⟨_,rfl⟩,_,rfl,stp s5 rfl⟩
   ·cases ho'
    have h14:V 14=.bool true:=get 14 (by kernel_rfl)
    have h20:V 20=.bool true:=get 20 (by kernel_rfl)
    conv=>whnf
    rw[h14]
    conv=>whnf
    exact⟨⟨_,rfl⟩,_,rfl,stp (Sub.refl _) h20⟩
   ·cases ho'
    have h21:V 21=.bool true:=get 21 (by kernel_rfl)
    conv=>whnf
    exact⟨⟨_,rfl⟩,_,rfl,stp (Sub.refl _) h21⟩
   ·cases ho'
    conv=>whnf
    exact⟨⟨_,rfl⟩,_,rfl,stp (Sub.refl _) (hD.up hI.sub)⟩
   ·cases ho'
    conv=>whnf
    exact⟨⟨_,rfl⟩,_,rfl,stp (Sub.refl _) (hM.up hI.sub)⟩
   ·cases ho'
    have h23:MatH H' (V 23) mHalf:=get 23 (by kernel_rfl)
    have h24:MatH H' (V 24) mHalf:=get 24 (by kernel_rfl)
    conv=>whnf
    refine (c52c mHalf mHalf (eqM_refl _) (by decide) (by decide) _ _ _ h23 h24).val fun H5 s5=>?_
    conv=>whnf
    exact⟨⟨_,rfl⟩,_,rfl,stp s5 rfl⟩
   ·cases ho'
    have h22:V 22=.bool true:=get 22 (by kernel_rfl)
    have h25:V 25=.bool true:=get 25 (by kernel_rfl)
    conv=>whnf
    rw[h22]
    conv=>whnf
    exact⟨⟨_,rfl⟩,_,rfl,stp (Sub.refl _) h25⟩
   ·cases ho'
    have h26:V 26=.bool true:=get 26 (by kernel_rfl)
    conv=>whnf
    exact⟨⟨_,rfl⟩,_,rfl,stp (Sub.refl _) h26⟩
   ·cases ho'
    conv=>whnf
    exact⟨⟨_,rfl⟩,_,rfl,stp (Sub.refl _) rfl⟩
   ·cases ho'
    conv=>whnf
    refine⟨_,Rd.anyO (O:=emp) (GlobH.up hG hI.sub).1,?_⟩
    conv=>whnf
    exact⟨⟨_,rfl⟩,_,rfl,stp (Sub.refl _) rfl⟩
   ·cases ho'
    have h28:V 28=(.agg ⟨[.int .i64 1,.int .i64 0,.int .i64 0,.int .i64 0,.int .i64 2]⟩):=get 28 (by kernel_rfl)
    have h29:V 29=(.agg ⟨[.int .i64 1,.int .i64 0,.int .i64 0,.int .i64 0,.int .i64 2]⟩):=get 29 (by kernel_rfl)
    conv=>whnf
    rw[h28,h29]
    conv=>whnf
    exact⟨⟨_,rfl⟩,_,rfl,stp (Sub.refl _) rfl⟩
   ·cases ho'
    have h27:V 27=.bool true:=get 27 (by kernel_rfl)
    have h30:V 30=.bool true:=get 30 (by kernel_rfl)
    conv=>whnf
    rw[h27]
    conv=>whnf
    exact⟨⟨_,rfl⟩,_,rfl,stp (Sub.refl _) h30⟩
   ·cases ho'
    have h31:V 31=.bool true:=get 31 (by kernel_rfl)
    conv=>whnf
    exact⟨⟨_,rfl⟩,_,rfl,stp (Sub.refl _) h31⟩
   ·cases ho'
    conv=>whnf
    exact⟨⟨_,rfl⟩,_,rfl,stp (Sub.refl _) (hR.up hI.sub)⟩
   ·cases ho'
    conv=>whnf
    exact⟨⟨_,rfl⟩,_,rfl,stp (Sub.refl _) rfl⟩
   ·cases ho'
    conv=>whnf
    exact⟨⟨_,rfl⟩,_,rfl,stp (Sub.refl _) rfl⟩
   ·cases ho'
    have h34:V 34=(.agg ⟨[.int .i64 1,.int .i64 0,.int .i64 0,.int .i64 0,.int .i64 0]⟩):=get 34 (by kernel_rfl)
    have h35:V 35=(.agg ⟨[.int .i64 0,.int .i64 0,.int .i64 0,.int .i64 0,.int .i64 0]⟩):=get 35 (by kernel_rfl)
    conv=>whnf
    rw[h34]
    conv=>whnf
    rw[h35]
    conv=>whnf
    intro b hb hO
    conv=>whnf
    exact⟨⟨_,rfl⟩,_,rfl,stp (sub_ins _ _ hb) ⟨⟨b,rfl⟩,(pair_num (x:=nu 1 0) (y:=nu 0 0) (ins_same _ _ _))⟩⟩
   ·cases ho'
    obtain⟨_,h36⟩:(∃ b,V 36=.slice (some ⟨b,0,none⟩) 2 2)∧NumH H' (V 36) [nu 1 0,nu 0 0]:=get 36 (by kernel_rfl)
    conv=>whnf
    refine (e50h [nu 1 0,nu 0 0] mOne x_diag1 (by decide) _ _ h36).use fun v5 H5 s5 hv5=>?_
    obtain⟨_,hv5⟩:=hv5
    conv=>whnf
    exact⟨⟨_,rfl⟩,_,rfl,stp s5 hv5⟩
   ·cases ho'
    have h33:MatH H' (V 33) mOne:=get 33 (by kernel_rfl)
    have h37:MatH H' (V 37) mOne:=get 37 (by kernel_rfl)
    conv=>whnf
    refine (c52c mOne mOne (eqM_refl _) (by decide) (by decide) _ _ _ h33 h37).val fun H5 s5=>?_
    conv=>whnf
    exact⟨⟨_,rfl⟩,_,rfl,stp s5 rfl⟩
   ·cases ho'
    have h32:V 32=.bool true:=get 32 (by kernel_rfl)
    have h38:V 38=.bool true:=get 38 (by kernel_rfl)
    conv=>whnf
    rw[h32]
    conv=>whnf
    exact⟨⟨_,rfl⟩,_,rfl,stp (Sub.refl _) h38⟩
   ·cases ho'
    have h39:V 39=.bool true:=get 39 (by kernel_rfl)
    conv=>whnf
    exact⟨⟨_,rfl⟩,_,rfl,stp (Sub.refl _) h39⟩
   ·cases ho'
    conv=>whnf
    exact⟨⟨_,rfl⟩,_,rfl,stp (Sub.refl _) rfl⟩
   ·cases ho'
    conv=>whnf
    refine⟨_,Rd.anyO (O:=emp) (GlobH.up hG hI.sub).1,?_⟩
    conv=>whnf
    exact⟨⟨_,rfl⟩,_,rfl,stp (Sub.refl _) rfl⟩
   ·cases ho'
    have h41:V 41=(.agg ⟨[.int .i64 1,.int .i64 0,.int .i64 0,.int .i64 0,.int .i64 2]⟩):=get 41 (by kernel_rfl)
    have h42:V 42=(.agg ⟨[.int .i64 1,.int .i64 0,.int .i64 0,.int .i64 0,.int .i64 2]⟩):=get 42 (by kernel_rfl)
    conv=>whnf
    rw[h41,h42]
    conv=>whnf
    exact⟨⟨_,rfl⟩,_,rfl,stp (Sub.refl _) rfl⟩
   ·cases ho'
    have h40:V 40=.bool true:=get 40 (by kernel_rfl)
    have h43:V 43=.bool true:=get 43 (by kernel_rfl)
    conv=>whnf
    rw[h40]
    conv=>whnf
    exact⟨⟨_,rfl⟩,_,rfl,stp (Sub.refl _) h43⟩
   ·cases ho'
    have h44:V 44=.bool true:=get 44 (by kernel_rfl)
    conv=>whnf
    exact⟨⟨_,rfl⟩,_,rfl,stp (Sub.refl _) h44⟩
   ·cases ho'
    conv=>whnf
    exact⟨⟨_,rfl⟩,_,rfl,stp (Sub.refl _) rfl⟩
   ·cases ho'
    have h46:V 46=(.slice (some ⟨lb,lo,none⟩) 2 lc):=get 46 (by kernel_rfl)
    conv=>whnf
    rw[h46]
    conv=>whnf
    exact⟨⟨_,rfl⟩,_,rfl,stp (Sub.refl _) rfl⟩
   ·cases ho'
    have h47:V 47=.pointer (some ⟨lb,lo+0*1,none⟩):=get 47 (by kernel_rfl)
    conv=>whnf
    rw[h47]
    conv=>whnf
    obtain⟨qb,qc,eq⟩:=MatH.sl hu0
    refine⟨_,Rd.anyO (O:=emp) (Rd_up (hru0 emp) hI.sub),?_⟩
    rw[eq]
    conv=>whnf
    exact⟨⟨_,rfl⟩,_,rfl,stp (Sub.refl _) (eq ▸ hu0.up hI.sub)⟩
   ·cases ho'
    conv=>whnf
    refine⟨_,Rd.anyO (O:=emp) (GlobH.up hG hI.sub).1,?_⟩
    conv=>whnf
    exact⟨⟨_,rfl⟩,_,rfl,stp (Sub.refl _) rfl⟩
   ·cases ho'
    conv=>whnf
    exact⟨⟨_,rfl⟩,_,rfl,stp (Sub.refl _) rfl⟩
   ·cases ho'
    have h49:V 49=(.agg ⟨[.int .i64 1,.int .i64 0,.int .i64 0,.int .i64 0,.int .i64 2]⟩):=get 49 (by kernel_rfl)
    have h50:V 50=(.agg ⟨[.int .i64 0,.int .i64 0,.int .i64 0,.int .i64 0,.int .i64 0]⟩):=get 50 (by kernel_rfl)
    conv=>whnf
    rw[h49]
    conv=>whnf
    rw[h50]
    conv=>whnf
    intro b hb hO
    conv=>whnf
    exact⟨⟨_,rfl⟩,_,rfl,stp (sub_ins _ _ hb) ⟨⟨b,rfl⟩,(pair_num (x:=nu 1 2) (y:=nu 0 0) (ins_same _ _ _))⟩⟩
   ·cases ho'
    obtain⟨_,h51⟩:(∃ b,V 51=.slice (some ⟨b,0,none⟩) 2 2)∧NumH H' (V 51) [nu 1 2,nu 0 0]:=get 51 (by kernel_rfl)
    conv=>whnf
    refine (e50h [nu 1 2,nu 0 0] mH0 x_diag4 (by decide) _ _ h51).use fun v5 H5 s5 hv5=>?_
    obtain⟨_,hv5⟩:=hv5
    conv=>whnf
    exact⟨⟨_,rfl⟩,_,rfl,stp s5 hv5⟩
   ·cases ho'
    have h48:MatH H' (V 48) mH0:=get 48 (by kernel_rfl)
    have h52:MatH H' (V 52) mH0:=get 52 (by kernel_rfl)
    conv=>whnf
    refine (c52c mH0 mH0 (eqM_refl _) (by decide) (by decide) _ _ _ h48 h52).val fun H5 s5=>?_
    conv=>whnf
    exact⟨⟨_,rfl⟩,_,rfl,stp s5 rfl⟩
   ·cases ho'
    have h45:V 45=.bool true:=get 45 (by kernel_rfl)
    have h53:V 53=.bool true:=get 53 (by kernel_rfl)
    conv=>whnf
    rw[h45]
    conv=>whnf
    exact⟨⟨_,rfl⟩,_,rfl,stp (Sub.refl _) h53⟩
   ·cases ho'
    have h54:V 54=.bool true:=get 54 (by kernel_rfl)
    conv=>whnf
    exact⟨⟨_,rfl⟩,_,rfl,stp (Sub.refl _) h54⟩
   ·cases ho'
    conv=>whnf
    exact⟨⟨_,rfl⟩,_,rfl,stp (Sub.refl _) rfl⟩
   ·cases ho'
    have h56:V 56=(.slice (some ⟨lb,lo,none⟩) 2 lc):=get 56 (by kernel_rfl)
    conv=>whnf
    rw[h56]
    conv=>whnf
    exact⟨⟨_,rfl⟩,_,rfl,stp (Sub.refl _) rfl⟩
   ·cases ho'
    have h57:V 57=.pointer (some ⟨lb,lo+1*1,none⟩):=get 57 (by kernel_rfl)
    conv=>whnf
    rw[h57]
    conv=>whnf
    obtain⟨qb,qc,eq⟩:=MatH.sl hu1
    refine⟨_,Rd.anyO (O:=emp) (Rd_up (hru1 emp) hI.sub),?_⟩
    rw[eq]
    conv=>whnf
    exact⟨⟨_,rfl⟩,_,rfl,stp (Sub.refl _) (eq ▸ hu1.up hI.sub)⟩
   ·cases ho'
    conv=>whnf
    exact⟨⟨_,rfl⟩,_,rfl,stp (Sub.refl _) rfl⟩
   ·cases ho'
    conv=>whnf
    refine⟨_,Rd.anyO (O:=emp) (GlobH.up hG hI.sub).1,?_⟩
    conv=>whnf
    exact⟨⟨_,rfl⟩,_,rfl,stp (Sub.refl _) rfl⟩
   ·cases ho'
    have h59:V 59=(.agg ⟨[.int .i64 0,.int .i64 0,.int .i64 0,.int .i64 0,.int .i64 0]⟩):=get 59 (by kernel_rfl)
    have h60:V 60=(.agg ⟨[.int .i64 1,.int .i64 0,.int .i64 0,.int .i64 0,.int .i64 2]⟩):=get 60 (by kernel_rfl)
    conv=>whnf
    rw[h59]
    conv=>whnf
    rw[h60]
    conv=>whnf
    intro b hb hO
    conv=>whnf
    exact⟨⟨_,rfl⟩,_,rfl,stp (sub_ins _ _ hb) ⟨⟨b,rfl⟩,(pair_num (x:=nu 0 0) (y:=nu 1 2) (ins_same _ _ _))⟩⟩
   ·cases ho'
    obtain⟨_,h61⟩:(∃ b,V 61=.slice (some ⟨b,0,none⟩) 2 2)∧NumH H' (V 61) [nu 0 0,nu 1 2]:=get 61 (by kernel_rfl)
    conv=>whnf
    refine (e50h [nu 0 0,nu 1 2] mH1 x_diag5 (by decide) _ _ h61).use fun v5 H5 s5 hv5=>?_
    obtain⟨_,hv5⟩:=hv5
    conv=>whnf
    exact⟨⟨_,rfl⟩,_,rfl,stp s5 hv5⟩
   ·cases ho'
    have h58:MatH H' (V 58) mH1:=get 58 (by kernel_rfl)
    have h62:MatH H' (V 62) mH1:=get 62 (by kernel_rfl)
    conv=>whnf
    refine (c52c mH1 mH1 (eqM_refl _) (by decide) (by decide) _ _ _ h58 h62).val fun H5 s5=>?_
    conv=>whnf
    exact⟨⟨_,rfl⟩,_,rfl,stp s5 rfl⟩
   ·cases ho'
    have h55:V 55=.bool true:=get 55 (by kernel_rfl)
    have h63:V 63=.bool true:=get 63 (by kernel_rfl)
    conv=>whnf
    rw[h55]
    conv=>whnf
    exact⟨⟨_,rfl⟩,_,rfl,stp (Sub.refl _) h63⟩
   ·cases ho'
    have h64:V 64=.bool true:=get 64 (by kernel_rfl)
    conv=>whnf
    exact⟨⟨_,rfl⟩,_,rfl,stp (Sub.refl _) h64⟩
   ·cases ho'
    conv=>whnf
    exact⟨⟨_,rfl⟩,_,rfl,stp (Sub.refl _) (hX.up hI.sub)⟩
   ·cases ho'
    conv=>whnf
    exact⟨⟨_,rfl⟩,_,rfl,stp (Sub.refl _) (hM.up hI.sub)⟩
   ·cases ho'
    have h66:MatH H' (V 66) mHalf:=get 66 (by kernel_rfl)
    have h67:MatH H' (V 67) mHalf:=get 67 (by kernel_rfl)
    conv=>whnf
    refine (c52c mHalf mHalf (eqM_refl _) (by decide) (by decide) _ _ _ h66 h67).val fun H5 s5=>?_
    conv=>whnf
    exact⟨⟨_,rfl⟩,_,rfl,stp s5 rfl⟩
   ·cases ho'
    have h65:V 65=.bool true:=get 65 (by kernel_rfl)
    have h68:V 68=.bool true:=get 68 (by kernel_rfl)
    conv=>whnf
    rw[h65]
    conv=>whnf
    exact⟨⟨_,rfl⟩,_,rfl,stp (Sub.refl _) h68⟩
   ·cases ho'
    have h69:V 69=.bool true:=get 69 (by kernel_rfl)
    conv=>whnf
    exact⟨⟨_,rfl⟩,_,rfl,stp (Sub.refl _) h69⟩
   ·cases ho'
    conv=>whnf
    exact⟨⟨_,rfl⟩,_,rfl,stp (Sub.refl _) rfl⟩
   ·cases ho'
    conv=>whnf
    exact⟨⟨_,rfl⟩,_,rfl,stp (Sub.refl _) rfl⟩
   ·cases ho'
    have h71:V 71=(.agg ⟨[.int .i64 0,.int .i64 0,.int .i64 0,.int .i64 0,.int .i64 0]⟩):=get 71 (by kernel_rfl)
    have h72:V 72=(.agg ⟨[.int .i64 1,.int .i64 0,.int .i64 0,.int .i64 0,.int .i64 0]⟩):=get 72 (by kernel_rfl)
    conv=>whnf
    rw[h71]
    conv=>whnf
    rw[h72]
    conv=>whnf
    intro b hb hO
    conv=>whnf
    exact⟨⟨_,rfl⟩,_,rfl,stp (sub_ins _ _ hb) ⟨⟨b,rfl⟩,(pair_num (x:=nu 0 0) (y:=nu 1 0) (ins_same _ _ _))⟩⟩
   ·cases ho'
    conv=>whnf
    exact⟨⟨_,rfl⟩,_,rfl,stp (Sub.refl _) rfl⟩
   ·cases ho'
    conv=>whnf
    exact⟨⟨_,rfl⟩,_,rfl,stp (Sub.refl _) rfl⟩
   ·cases ho'
    have h74:V 74=(.agg ⟨[.int .i64 0,.int .i64 0,.int .i64 0,.int .i64 0,.int .i64 0]⟩):=get 74 (by kernel_rfl)
    have h75:V 75=(.agg ⟨[.int .i64 0,.int .i64 0,.int .i64 0,.int .i64 0,.int .i64 0]⟩):=get 75 (by kernel_rfl)
    conv=>whnf
    rw[h74]
    conv=>whnf
    rw[h75]
    conv=>whnf
    intro b hb hO
    conv=>whnf
    exact⟨⟨_,rfl⟩,_,rfl,stp (sub_ins _ _ hb) ⟨⟨b,rfl⟩,(pair_num (x:=nu 0 0) (y:=nu 0 0) (ins_same _ _ _))⟩⟩
   ·cases ho'
    obtain⟨⟨x1,h73⟩,n73⟩:(∃ b,V 73=.slice (some ⟨b,0,none⟩) 2 2)∧NumH H' (V 73) [nu 0 0,nu 1 0]:=get 73 (by kernel_rfl)
    obtain⟨⟨x2,h76⟩,n76⟩:(∃ b,V 76=.slice (some ⟨b,0,none⟩) 2 2)∧NumH H' (V 76) [nu 0 0,nu 0 0]:=get 76 (by kernel_rfl)
    rw[h73] at n73
    rw[h76] at n76
    conv=>whnf
    rw[h73]
    conv=>whnf
    rw[h76]
    conv=>whnf
    intro b hb hO
    conv=>whnf
    exact⟨⟨_,rfl⟩,_,rfl,stp (sub_ins _ _ hb) (mat2 (ins_same _ _ _) (n73.up (sub_ins _ _ hb)) (n76.up (sub_ins _ _ hb)))⟩
   ·cases ho'
    have h77:MatH H' (V 77) mBad:=get 77 (by kernel_rfl)
    conv=>whnf
    refine (e48 mBad (by decide) _ _ h77).val fun H5 s5=>?_
    rw[show denErr mBad=7 from x_check]
    conv=>whnf
    exact⟨⟨_,rfl⟩,_,rfl,stp s5 rfl⟩
   ·cases ho'
    have h78:V 78=.int .i64 7:=get 78 (by kernel_rfl)
    conv=>whnf
    rw[h78]
    conv=>whnf
    exact⟨⟨_,rfl⟩,_,rfl,stp (Sub.refl _) rfl⟩
   ·cases ho'
    have h70:V 70=.bool true:=get 70 (by kernel_rfl)
    have h79:V 79=.bool true:=get 79 (by kernel_rfl)
    conv=>whnf
    rw[h70]
    conv=>whnf
    exact⟨⟨_,rfl⟩,_,rfl,stp (Sub.refl _) h79⟩
   ·cases ho'
    have h80:V 80=.bool true:=get 80 (by kernel_rfl)
    conv=>whnf
    exact⟨⟨_,rfl⟩,_,rfl,stp (Sub.refl _) h80⟩
  ·intro L V H5 O5 hI hall
   have hO5:=hI.own
   subst hO5
   have h81:V 81=.bool true:=hI.sp 81 (hall 81 (by decide))
   conv=>whnf
   exact h81
theorem great_not {m : Mx} {n:Nat} (h:greatF m n=false):m.length≤n∧∀ r∈m,r.length≤n:=by
 unfold greatF at h
 rw[Bool.or_eq_false_iff] at h
 refine⟨by have:=of_decide_eq_false h.1;omega,fun r hr=>?_⟩
 have:=(List.any_eq_false.1 h.2) r hr
 simp at this
 omega
theorem e6 (m n : Mx) (hm:m.length < 9223372036854775808) (hn:n.length < 9223372036854775808) (H:PH) (u v:Value) (hG:GlobH H) (hu:MatH H u m) (hv:MatH H v n):Cl Tryz.prog 6 [u,v] H emp fun r _ _=>r=.bool true:=by
 obtain⟨ub,uc,rfl⟩:=MatH.sl hu
 obtain⟨vb,vc,rfl⟩:=MatH.sl hv
 refine Cl_of (pol:=polL) Γok Tryz.func6 (by kernel_rfl) rfl ?_
 conv=>whnf
 refine (c26 m 18 _ _ hu hm).val fun H1 s1=>?_
 conv=>whnf
 refine if_intro (fun h1=>?_) (fun h1=>?_)
 ·conv=>whnf
  refine (e9 _ (hG.up s1)).val fun H2 s2=>?_
  conv=>whnf
 conv=>whnf
 refine (c26 n 18 _ _ (hv.up s1) hn).val fun H2 s2=>?_
 conv=>whnf
 refine if_intro (fun h2=>?_) (fun h2=>?_)
 ·conv=>whnf
  refine (e9 _ (hG.up (s1.trans s2))).val fun H3 s3=>?_
  conv=>whnf
 obtain⟨a1,a2⟩:=great_not (n:=18) h1
 obtain⟨b1,b2⟩:=great_not (n:=18) h2
 have t2:=s1.trans s2
 replace hu:=hu.up t2
 replace hv:=hv.up t2
 replace hG:=hG.up t2
 conv=>whnf
 refine (c15' m _ _ hu (by omega) (fun r hr=>by have:=a2 r hr;omega)).use fun x H3 s3 hr=>?_
 obtain⟨_,hx⟩:=hr
 obtain⟨xb,xc,rfl⟩:=MatH.sl hx
 replace hu:=hu.up s3
 replace hv:=hv.up s3
 replace hG:=hG.up s3
 conv=>whnf
 refine (c15' n _ _ hv (by omega) (fun r hr=>by have:=b2 r hr;omega)).use fun y H4 s4 hr=>?_
 obtain⟨_,hy⟩:=hr
 obtain⟨yb,yc,rfl⟩:=MatH.sl hy
 replace hu:=hu.up s4
 replace hv:=hv.up s4
 replace hG:=hG.up s4
 replace hx:=hx.up s4
 conv=>whnf
 refine (e46 m n _ _ _ hu hv).val fun H5 s5=>?_
 replace hu:=hu.up s5
 replace hv:=hv.up s5
 replace hG:=hG.up s5
 replace hx:=hx.up s5
 replace hy:=hy.up s5
 conv=>whnf
 refine (e47 m n (by omega) (by omega) _ _ _ hx hy).val fun H6 s6=>?_
 replace hu:=hu.up s6
 replace hv:=hv.up s6
 replace hG:=hG.up s6
 replace hx:=hx.up s6
 replace hy:=hy.up s6
 conv=>whnf
 refine (e48 m (by omega) _ _ hx).val fun H7 s7=>?_
 replace hu:=hu.up s7
 replace hv:=hv.up s7
 replace hG:=hG.up s7
 replace hx:=hx.up s7
 replace hy:=hy.up s7
 conv=>whnf
 refine (e49 m _ _ hu).val fun H8 s8=>?_
 replace hu:=hu.up s8
 replace hv:=hv.up s8
 replace hG:=hG.up s8
 replace hx:=hx.up s8
 replace hy:=hy.up s8
 conv=>whnf
 rw[beq_self_eq_true]
 conv=>whnf
 rw[beq_self_eq_true]
 conv=>whnf
 rw[beq_self_eq_true]
 conv=>whnf
 have hs1:=e18 m m _ _ _ hx hu (by omega) (fun r hr=>by have:=a2 r hr;omega)
 rw[eqM_refl] at hs1
 refine hs1.val fun H9 s9=>?_
 conv=>whnf
 have hs2:=e18 n n _ _ _ (hy.up s9) (hv.up s9) (by omega) (fun r hr=>by have:=b2 r hr;omega)
 rw[eqM_refl] at hs2
 refine hs2.val fun H10 s10=>?_
 conv=>whnf
 refine (e9 _ ((hG.up s9).up s10)).val fun H11 s11=>?_
 conv=>whnf
end Go.Proofs.YtodmckckapmmoaaGreatDoor
namespace Go.Proofs.YtodmckckapmmoaaGreatDoor
open Go.Proofs.YtodmckckapmmoaaGreatDoor.X Go.Proofs.YtodmckckapmmoaaGreatDoor.X.PH Go.ChangeShapes Go.WideShapes Go.ChangeAt Go.RowKit Go.Deep
set_option maxRecDepth 100000
theorem Cl.calls {f : FuncId} {args:List Value} {W:World} {Q:Value→Prop} (h:Cl Tryz.prog f args (heapP W) emp fun v _ _=>Q v):Calls Tryz.prog f args.toArray W fun e W'=>∃ v,e=.returned v∧Below W.heap.size W W'∧Q v:=by
 unfold Cl at h
 refine (h.2 W (fun n o hn=>hn) (fun n o hn=>by cases hn) (.emp _)).mono ?_
 rintro e W' ⟨v,H',M',he,hp,hq⟩
 exact⟨v,he,hp.frm.below,hq⟩
section
variable {H : Type} {enc : TypeId × Value → H} {W : World}
end
section
variable {H : Type} {enc : TypeId × Value → H} {W : World}
end
section
variable {H : Type} {enc : TypeId × Value → H} {W : World}
end
section
variable {H : Type} {enc : TypeId × Value → H} {W : World}
end
abbrev laid2 : List (String × DataW Unit) := [("spoondrift/spoondriftlaw16.root", Rows.laid_spoondrift_spoondriftlaw16_root), ("spoondrift/spoondriftlaw16.half", Rows.laid_spoondrift_spoondriftlaw16_half)]
theorem gRoot : Tryz.prog.globalNamed "spoondrift/spoondriftlaw16.root" = some 1 := by kernel_rfl
theorem gHalf : Tryz.prog.globalNamed "spoondrift/spoondriftlaw16.half" = some 0 := by kernel_rfl
theorem tRoot : (Tryz.prog.globals[1]?).map (·.type)=some 25:=by kernel_rfl
theorem tHalf : (Tryz.prog.globals[0]?).map (·.type)=some 25:=by kernel_rfl
theorem door_met (os : Os) (args:Array Value):laidMetH Tryz.prog laid2 ((World.doorLaid Tryz.prog 400 os).forCall (fun _ _=>0) ⟨#[],args,[]⟩).memory:=
 laidMetH_of_parts3 (fuel:=8) (laidMet_of_run' 8 (by kernel_rfl) (by kernel_rfl)) (by kernel_rfl) (by kernel_rfl)
section
variable {W : World}
theorem glob_num {fuel : Nat} {cs:List Value} {k0 k1 k2 k3 k4:Int} {p:List MemPlace} (h:DataW.trod (fun _=>()) Tryz.prog W 0 (fun _=>true) false fuel 25 cs=some (.agg [.lit (.int .i64 k0),.lit (.int .i64 k1),.lit (.int .i64 k2),.lit (.int .i64 k3),.lit (.int .i64 k4)],p)):cs=[.int .i64 k0,.int .i64 k1,.int .i64 k2,.int .i64 k3,.int .i64 k4]:=by
 obtain⟨xs,n,rfl,e,hl,hx,hf⟩:=DataW.trod_struct Tryz.underlying25 h
 rw[cells28] at hl
 have hx5:xs.length=5:=hx
 simp only[Prod.mk.injEq,DataW.agg.injEq] at e
 have he:=e.1
 have key : ∀ (i : Nat) (f : Field), #[{ name := "A", type := 3, offset := 0, embedded := false, tag := "", pkgPath := "", byteOffset := 0 : Field }, { name := "B", type := 3, offset := 1, embedded := false, tag := "", pkgPath := "", byteOffset := 8 }, { name := "C", type := 3, offset := 2, embedded := false, tag := "", pkgPath := "", byteOffset := 16 }, { name := "D", type := 3, offset := 3, embedded := false, tag := "", pkgPath := "", byteOffset := 24 }, { name := "K", type := 3, offset := 4, embedded := false, tag := "", pkgPath := "", byteOffset := 32 }][i]? = some f → f.type = 3 → f.offset = i → i < 5 → ∃ k, cs[i]? = some (.int .i64 k) ∧ ([DataW.lit (.int .i64 k0), .lit (.int .i64 k1), .lit (.int .i64 k2), .lit (.int .i64 k3), .lit (.int .i64 k4)] : List (DataW Unit))[i]? = some (.lit (.int .i64 k)) := by
  intro i f hfi ht ho hi
  have:=hf i f hfi
  rw[ht,ho,cells3] at this
  rw[List.getElem?_eq_getElem (by omega)] at this
  obtain⟨k,hk,e2,_⟩:=DataW.trod_int Tryz.underlying3 this
  refine⟨k,?_,?_⟩
  ·have:=congrArg (·[0]?) hk
   simpa[List.getElem?_take,List.getElem?_drop] using this
  ·rw[he,List.getElem?_map,List.getElem?_eq_getElem (by omega),e2]
   rfl
 obtain⟨q0,h0,i0⟩:=key 0 _ rfl rfl rfl (by decide)
 obtain⟨q1,h1,i1⟩:=key 1 _ rfl rfl rfl (by decide)
 obtain⟨q2,h2,i2⟩:=key 2 _ rfl rfl rfl (by decide)
 obtain⟨q3,h3,i3⟩:=key 3 _ rfl rfl rfl (by decide)
 obtain⟨q4,h4,i4⟩:=key 4 _ rfl rfl rfl (by decide)
 simp at i0 i1 i2 i3 i4
 subst i0 i1 i2 i3 i4
 match cs,hl with
 | [a,b,c,d,e],_=>
  simp at h0 h1 h2 h3 h4
  subst h0 h1 h2 h3 h4
  rfl
theorem glob_cell {g : Nat} {n:String} {cs:Array Value} {k:Int} (hg:Tryz.prog.globalNamed n=some g) (hv:W.var? Tryz.prog n=some cs) (hc:cs.toList=[.int .i64 1,.int .i64 0,.int .i64 0,.int .i64 0,.int .i64 k]):Rd (heapP W) emp ⟨g,0,none⟩ 5 [.int .i64 1,.int .i64 0,.int .i64 0,.int .i64 0,.int .i64 k]:=by
 obtain⟨l⟩:=cs
 have hc:l=[.int .i64 1,.int .i64 0,.int .i64 0,.int .i64 0,.int .i64 k]:=hc
 subst hc
 have c0:=World.var?_cell hg hv 0
 have c1:=World.var?_cell hg hv 1
 have c2:=World.var?_cell hg hv 2
 have c3:=World.var?_cell hg hv 3
 have c4:=World.var?_cell hg hv 4
 obtain⟨b,off,c,t,fr,e,hb,h0⟩:=one_block (v:=.int .i64 1) (by simpa using c0)
 cases e
 obtain⟨_,_,c',t',fr',e,hb',h1⟩:=one_block (v:=.int .i64 0) (by simpa using c1)
 cases e
 rw[hb] at hb';cases hb'
 obtain⟨_,_,c',t',fr',e,hb',h2⟩:=one_block (v:=.int .i64 0) (by simpa using c2)
 cases e
 rw[hb] at hb';cases hb'
 obtain⟨_,_,c',t',fr',e,hb',h3⟩:=one_block (v:=.int .i64 0) (by simpa using c3)
 cases e
 rw[hb] at hb';cases hb'
 obtain⟨_,_,c',t',fr',e,hb',h4⟩:=one_block (v:=.int .i64 k) (by simpa using c4)
 cases e
 rw[hb] at hb';cases hb'
 refine⟨rfl,rfl,c,t,fr,.inl hb,?_⟩
 apply List.ext_getElem?
 intro i
 rw[List.getElem?_take,List.drop_zero]
 match i with
 | 0=>simpa using h0
 | 1=>simpa using h1
 | 2=>simpa using h2
 | 3=>simpa using h3
 | 4=>simpa using h4
 | i+5=>
  simp
  omega
theorem glob_of_laid (h : laidMetH Tryz.prog laid2 W):GlobH (heapP W):=by
 rw[MakeChecks.laidMetH_plain _ _ _ (by kernel_rfl)] at h
 obtain⟨ps,⟨g0,t0,cs0,f0,p0,q0,hg0,ht0,hv0,hd0,⟨g1,t1,cs1,f1,p1,q1,hg1,ht1,hv1,hd1,_,_⟩,_⟩,_,_⟩:=h
 obtain rfl:=Option.some.inj (gRoot.symm.trans hg0)
 obtain rfl:=Option.some.inj (gHalf.symm.trans hg1)
 obtain rfl:=Option.some.inj (tRoot.symm.trans ht0)
 obtain rfl:=Option.some.inj (tHalf.symm.trans ht1)
 exact⟨glob_cell hg1 hv1 (glob_num hd1),glob_cell hg0 hv0 (glob_num hd0)⟩
end
section
variable {H : Type} {enc : TypeId × Value → H} {W : World}
end
end Go.Proofs.YtodmckckapmmoaaGreatDoor
