/- A logic for code of the model, proved sound, and what functions do that the laws on matrices come to; nothing is asked. Part 5. -/
import Derived.Test.YtodmckckapmmoaaGreatDoorM4
import Derived.Shelf.Spec.SlicesInsertGrow
set_option linter.unusedVariables false
set_option linter.unusedSimpArgs false
set_option linter.unnecessarySimpa false
namespace Go.Proofs.YtodmckckapmmoaaGreatDoor
open Go.Proofs.YtodmckckapmmoaaGreatDoor.X Go.Proofs.YtodmckckapmmoaaGreatDoor.X.PH
set_option maxRecDepth 100000
def BytesH (H : PH) (v:Value) (l:List Int):Prop:=SlH H v l.length (l.map fun x=>.int .u8 x)
theorem BytesH.at {H : PH} {base:Option Addr} {n cap:Nat} {l:List Int} (h:BytesH H (.slice base n cap) l) {i:Nat} (hi:i < l.length) :
 ∃ b off,base=some ⟨b,off,none⟩∧∀ H' O,Sub H H'→Rd H' O ⟨b,off+i*1,none⟩ 1 [.int .u8 l[i]]:=by
 obtain⟨_,_,hv,_⟩:=id h
 cases hv
 obtain⟨b,off,hb,hrd⟩:=SlH.rd (O:=emp) (sz:=1) h (by simp) hi
 have e:(List.take 1 (List.drop (i*1) (l.map fun x=>Value.int .u8 x)))=[.int .u8 l[i]]:=by
  rw[Nat.mul_one,List.drop_eq_getElem_cons (by simpa using hi)];simp
 rw[e] at hrd
 exact⟨b,off,hb,fun _ _ hs=>Rd_up hrd hs⟩
def lv (N : Nat) (x:P4 × Int):P4:=rz (N - x.2.toNat) x.1
theorem rz_zero : ∀ n,rz n P4.zero=P4.zero
 | 0=>rfl
 | n+1=>by
  show tw (rz n P4.zero)=_
  rw[rz_zero n]
  rfl
theorem lowerR_backF : ∀ (k:Nat) (p:P4),p.fine→p=rz (k - (lowerR k p).2) (lowerR k p).1∧(lowerR k p).2≤k
 | 0,p,_=>⟨rfl,Nat.le_refl _⟩
 | k+1,p,h=>by
  unfold lowerR
  cases he:evenR p with
  | false=>simp only[Bool.false_eq_true,if_false];exact⟨by rw[Nat.sub_self];rfl,Nat.le_refl _⟩
  | true=>
   simp only[if_true]
   obtain⟨_,h2,h3,h4⟩:=half_fine h he
   rw[h2]
   obtain⟨i1,i2⟩:=lowerR_backF k (hf p) h3
   refine⟨?_,by omega⟩
   rw[show k+1 - (lowerR k (hf p)).2=(k - (lowerR k (hf p)).2)+1 by omega]
   show p=tw (rz _ _)
   rw[← i1,h4]
theorem lv_form {p : P4} {k:Int} {N:Nat} (h:p.fine) (h0:0≤k) (hN:k≤N):lv N (formR p k)=lv N (p,k)∧0≤(formR p k).2∧(formR p k).2≤k:=by
 cases hz:p.isZero with
 | true=>
  have:p=P4.zero:=isZero_eq hz
  subst this
  refine⟨?_,by show (0:Int)≤0;omega,by show (0:Int)≤k;omega⟩
  show rz _ P4.zero=rz _ P4.zero
  rw[rz_zero,rz_zero]
 | false=>
  rw[formR_eq h0 hz]
  obtain⟨h1,h2⟩:=lowerR_backF k.toNat p h
  refine⟨?_,by dsimp only;omega,by dsimp only;omega⟩
  unfold lv
  dsimp only
  rw[Int.toNat_natCast]
  conv=>rhs;rw[h1]
  rw[← rz_add]
  congr 1
  omega
structure LV (N : Nat) (M:Int) (x:P4 × Int):Prop where
 ok:checkF x.1 x.2=0
 le:x.2≤N
 small:(lv N x).within M
theorem lv_sum {x y : P4 × Int} {N:Nat} (hx:0≤x.2) (hxN:x.2≤N) (hy:0≤y.2) (hyN:y.2≤N):lv N (sumP x y,max x.2 y.2)=pl (lv N x) (lv N y):=by
 unfold lv sumP
 dsimp only
 rw[rz_pl,← rz_add,← rz_add]
 congr 2<;>omega
theorem pz_tw_l (p q : P4):pz (tw p) q=tw (pz p q):=by
 unfold pz tw
 apply P4.ext'<;>dsimp only<;>grind
theorem pz_tw_r (p q : P4):pz p (tw q)=tw (pz p q):=by
 unfold pz tw
 apply P4.ext'<;>dsimp only<;>grind
theorem pz_rz (p q : P4):∀ a b,pz (rz a p) (rz b q)=rz (a+b) (pz p q)
 | 0,0=>rfl
 | 0,b+1=>by
  show pz (rz 0 p) (tw (rz b q))=tw (rz (0+b) (pz p q))
  rw[pz_tw_r,pz_rz p q 0 b]
 | a+1,b=>by
  show pz (tw (rz a p)) (rz b q)=_
  rw[pz_tw_l,pz_rz p q a b,show a+1+b=(a+b)+1 by omega]
  rfl
theorem cz_tw (p : P4):cz (tw p)=tw (cz p):=by
 unfold cz tw
 apply P4.ext'<;>dsimp only<;>omega
theorem cz_rz (p : P4):∀ n,cz (rz n p)=rz n (cz p)
 | 0=>rfl
 | n+1=>by
  show cz (tw (rz n p))=tw (rz n (cz p))
  rw[cz_tw,cz_rz p n]
theorem tw_inj {p q : P4} (h:tw p=tw q):p=q:=by
 unfold tw at h
 injection h with h1 h2 h3 h4
 apply P4.ext'<;>omega
theorem rz_inj {p q : P4}:∀ n,rz n p=rz n q→p=q
 | 0,h=>h
 | n+1,h=>rz_inj n (tw_inj h)
theorem evenR_tw (q : P4):evenR (tw q)=true:=by
 rw[evenR_iff]
 unfold tw
 dsimp only
 omega
theorem IsL.odd {x : P4 × Int} (h:IsL x) (hz:x.1.isZero=false):x.2=0∨evenR x.1=false:=by
 obtain⟨h0,h1,h2⟩:=right_in h.ok
 have hf:=h.form
 rw[formR_eq h0 hz] at hf
 rcases Int.lt_or_eq_of_le h0 with hp | hp
 rotate_left
 ·exact .inl hp.symm
 refine .inr ?_
 cases he:evenR x.1 with
 | false=>rfl
 | true=>
  exfalso
  have e2:=congrArg Prod.snd hf
  dsimp only at e2
  obtain⟨k,hk⟩:∃ k,x.2.toNat=k+1:=⟨x.2.toNat - 1,by omega⟩
  rw[hk] at e2
  unfold lowerR at e2
  rw[he] at e2
  simp only[if_true] at e2
  have:=lowerR_le k (halvedR x.1)
  omega
theorem IsL.zero {x : P4 × Int} (h:IsL x) (hz:x.1.isZero=true):x=(P4.zero,0):=by
 have hf:=h.form
 unfold formR at hf
 rw[hz] at hf
 simp only[if_true] at hf
 exact hf.symm
theorem IsL.ext {x y : P4 × Int} {N:Nat} (hx:IsL x) (hy:IsL y) (hxN:x.2≤N) (hyN:y.2≤N) (h:lv N x=lv N y):x=y:=by
 obtain⟨x0,x1,x2⟩:=right_in hx.ok
 obtain⟨y0,y1,y2⟩:=right_in hy.ok
 have key:∀ {u v:P4 × Int},IsL u→IsL v→0≤u.2→v.2≤N→u.2≤v.2→lv N u=lv N v→u=v:=by
  intro u v hu hv u0 hvN huv huv'
  have e:rz (v.2.toNat - u.2.toNat) u.1=v.1:=by
   apply rz_inj (N - v.2.toNat)
   rw[← rz_add]
   unfold lv at huv'
   rw[← huv']
   congr 1
   omega
  cases hz:v.1.isZero with
  | true=>
   have h1:u.1.isZero=true:=by
    rw[← rz_isZero (v.2.toNat - u.2.toNat),e,hz]
   rw[hu.zero h1,hv.zero hz]
  | false=>
   rcases hv.odd hz with h1 | h1
   ·have:u.2=v.2:=by omega
    rw[this,Nat.sub_self] at e
    exact Prod.ext e this
   ·rcases Int.lt_or_eq_of_le huv with hlt | heq
    ·exfalso
     rw[show v.2.toNat - u.2.toNat=(v.2.toNat - u.2.toNat - 1)+1 by omega] at e
     have:evenR v.1=true:=by rw[← e];exact evenR_tw _
     rw[h1] at this
     cases this
    ·rw[heq,Nat.sub_self] at e
     exact Prod.ext e heq
 rcases Int.le_total x.2 y.2 with hle | hle
 ·exact key hx hy x0 hyN hle h
 ·exact (key hy hx y0 hxN hle h.symm).symm
theorem zero_pl (p : P4):pl P4.zero p=p:=by unfold pl P4.zero;apply P4.ext'<;>dsimp only<;>omega
theorem pz_comm (p q : P4):pz p q=pz q p:=by unfold pz;apply P4.ext'<;>dsimp only<;>grind
theorem pz_assoc (p q r : P4):pz (pz p q) r=pz p (pz q r):=by unfold pz;apply P4.ext'<;>dsimp only<;>grind
theorem pz_pl (p q r : P4):pz p (pl q r)=pl (pz p q) (pz p r):=by unfold pz pl;apply P4.ext'<;>dsimp only<;>grind
theorem pz_zero (p : P4):pz p P4.zero=P4.zero:=by unfold pz P4.zero;apply P4.ext'<;>dsimp only<;>omega
theorem cz_pl (p q : P4):cz (pl p q)=pl (cz p) (cz q):=by unfold cz pl;apply P4.ext'<;>dsimp only<;>omega
theorem cz_pz (p q : P4):cz (pz p q)=pz (cz p) (cz q):=by unfold cz pz;apply P4.ext'<;>dsimp only<;>grind
theorem cz_cz (p : P4):cz (cz p)=p:=by unfold cz;apply P4.ext'<;>dsimp only<;>omega
theorem pl4 (a b c d : P4):pl (pl a b) (pl c d)=pl (pl a c) (pl b d):=by unfold pl;apply P4.ext'<;>dsimp only<;>omega
def su (f : Nat→P4):Nat→P4
 | 0=>P4.zero
 | n+1=>pl (su f n) (f n)
theorem su_congr {f g : Nat→P4}:∀ n,(∀ i,i < n→f i=g i)→su f n=su g n
 | 0,_=>rfl
 | n+1,h=>by
  show pl _ _=pl _ _
  rw[su_congr n fun i hi=>h i (by omega),h n (by omega)]
theorem su_pl (f g : Nat→P4):∀ n,su (fun i=>pl (f i) (g i)) n=pl (su f n) (su g n)
 | 0=>rfl
 | n+1=>by
  show pl _ _=pl (pl _ _) (pl _ _)
  rw[su_pl f g n,pl4]
theorem su_zero : ∀ n,su (fun _=>P4.zero) n=P4.zero
 | 0=>rfl
 | n+1=>by
  show pl _ _=_
  rw[su_zero n]
  rfl
theorem pz_su (c : P4) (f:Nat→P4):∀ n,pz c (su f n)=su (fun i=>pz c (f i)) n
 | 0=>pz_zero c
 | n+1=>by
  show pz c (pl _ _)=pl _ _
  rw[pz_pl,pz_su c f n]
theorem su_pz (c : P4) (f:Nat→P4) (n:Nat):pz (su f n) c=su (fun i=>pz (f i) c) n:=by
 rw[pz_comm,pz_su]
 exact su_congr n fun i _=>pz_comm _ _
theorem cz_su (f : Nat→P4):∀ n,cz (su f n)=su (fun i=>cz (f i)) n
 | 0=>rfl
 | n+1=>by
  show cz (pl _ _)=pl _ _
  rw[cz_pl,cz_su f n]
theorem su_swap (f : Nat→Nat→P4) (m:Nat):∀ n,su (fun i=>su (fun j=>f i j) m) n=su (fun j=>su (fun i=>f i j) n) m
 | 0=>by
  show P4.zero=su (fun _=>P4.zero) m
  rw[su_zero]
 | n+1=>by
  show pl _ _=su (fun j=>pl (su (fun i=>f i j) n) (f n j)) m
  rw[su_swap f m n,su_pl]
theorem LV.mono {N : Nat} {A B:Int} {x:P4 × Int} (h:LV N A x) (hAB:A≤B):LV N B x:=⟨h.ok,h.le,within_mono h.small hAB⟩
theorem lv_zero (N : Nat):lv N (P4.zero,0)=P4.zero:=rz_zero _
def ev (N : Nat) (m:Mx) (i k:Nat):P4:=lv N (entry m i k)
structure MV (N : Nat) (A:Int) (m:Mx) (h w:Nat):Prop where
 right:Right m
 len:m.length=h
 wid:wideM m=w
 el:∀ i k,i < h→k < w→LV N A (entry m i k)
theorem OwnS.not_at {O : PH} {sz:Nat} {t t':TypeId} {v:Value} {xs:List (List Value)} (ho:OwnS O sz t v xs) {n:Nat} {c:Array Value} (hn:O n=some (.cells c t' (0,0))) (ht:t ≠ t'):∀ m cap,v ≠ .slice (some ⟨n,0,none⟩) m cap:=by
 intro m cap e
 rcases ho.2 with⟨e',_⟩ | ⟨b',cap',spare,e',hO',_⟩
 ·rw[e] at e';cases e'
 ·rw[e] at e'
  cases e'
  rw[hn] at hO'
  injection hO' with hO'
  injection hO' with _ hO'
  exact ht hO'.symm
theorem MV.mono {N : Nat} {A B:Int} {m:Mx} {h w:Nat} (v:MV N A m h w) (hAB:A≤B):MV N B m h w:=⟨v.right,v.len,v.wid,fun i k hi hk=>(v.el i k hi hk).mono hAB⟩
def LeastMF (m : Mx):Mx × Int:=if checkMR m ≠ 0 then ([],checkMR m) else (m.map formsR,0)
theorem forms_entry (m : Mx) {i k:Nat} (hi:i < m.length) (hk:k < m[i].length):entry (m.map formsR) i k=formR (entry m i k).1 (entry m i k).2:=by
 rw[entry_get hi hk,entry_get (by simpa using hi) (by simpa[formsR] using hk)]
 simp[formsR]
theorem MV.lens {N : Nat} {A:Int} {m:Mx} {h w:Nat} (v:MV N A m h w):m.length < 1000000∧(∀ r∈m,r.length < 9223372036854775808):=by
 have rm:=v.right
 have:=rm.le
 have hw:=rm.wle
 exact⟨by omega,fun r hr=>by rw[rm.row r hr];omega⟩
theorem nat_of {a : Int} (h:0≤a):∃ n:Nat,a=n:=⟨a.toNat,by omega⟩
structure RowsS (M : PH) (us:List Value) (m:Mx):Prop where
 len:us.length=m.length
 row:∀ (i:Nat) (u:Value) (r:List (P4 × Int)),us[i]?=some u→m[i]?=some r→NumO M u r
 apart:∀ (i j:Nat) (b n c n' c':Nat),us[i]?=some (.slice (some ⟨b,0,none⟩) n c)→us[j]?=some (.slice (some ⟨b,0,none⟩) n' c')→i=j
theorem RowsS.keep {M M' : PH} {us:List Value} {m:Mx} (h:RowsS M us m) (hk:∀ (n:Nat) cs,M n=some (.cells cs 25 (0,0))→M' n=some (.cells cs 25 (0,0))):RowsS M' us m:=
 ⟨h.len,fun i u r hu hr=>OwnS.keep (h.row i u r hu hr) hk,h.apart⟩
theorem RowsS.snoc {M N : PH} {us:List Value} {m:Mx} {u:Value} {r:List (P4 × Int)} (h:RowsS M us m) (hd:Dis N M) (hu:NumO N u r):RowsS (un N M) (us++[u]) (m++[r]):=by
 refine⟨by simp[h.len],fun i u' r' hu' hr'=>?_,fun i j b n c n' c' hi hj=>?_⟩
 ·rcases Nat.lt_trichotomy i m.length with hi | hi | hi
  ·rw[List.getElem?_append_left (by rw[h.len];exact hi)] at hu'
   rw[List.getElem?_append_left hi] at hr'
   exact OwnS.keep (h.row i u' r' hu' hr') fun n cs hn=>un_right hd hn
  ·subst hi
   rw[← h.len,List.getElem?_concat_length] at hu'
   rw[List.getElem?_concat_length] at hr'
   cases hu'
   cases hr'
   exact OwnS.keep hu fun n cs hn=>un_l n _ hn
  ·rw[List.getElem?_eq_none (by simp;omega)] at hr'
   cases hr'
 ·have old:∀ (i b n c:Nat),us[i]?=some (.slice (some ⟨b,0,none⟩) n c)→M b ≠ none:=by
   intro i b n c hi
   have hl:=(List.getElem?_eq_some_iff.1 hi).1
   have hl':i < m.length:=by rw[← h.len];exact hl
   rcases (h.row i _ _ hi (List.getElem?_eq_getElem hl')).2 with⟨e,_⟩ | ⟨b',cap,spare,e,hO,_⟩
   ·cases e
   ·cases e;rw[hO];simp
  have new:∀ (b n c:Nat),u=.slice (some ⟨b,0,none⟩) n c→N b ≠ none:=by
   intro b n c e
   rcases hu.2 with⟨e',_⟩ | ⟨b',cap,spare,e',hO,_⟩
   ·rw[e] at e';cases e'
   ·rw[e] at e';cases e';rw[hO];simp
  have pos:∀ (i:Nat) (v:Value),(us++[u])[i]?=some v→(i < us.length∧us[i]?=some v)∨(i=us.length∧u=v):=by
   intro i v hv
   rcases Nat.lt_trichotomy i us.length with hl | hl | hl
   ·rw[List.getElem?_append_left hl] at hv
    exact .inl ⟨hl,hv⟩
   ·subst hl
    rw[List.getElem?_concat_length] at hv
    cases hv
    exact .inr ⟨rfl,rfl⟩
   ·rw[List.getElem?_eq_none (by simp;omega)] at hv
    cases hv
  rcases pos _ _ hi with⟨l1,e1⟩ | ⟨l1,e1⟩<;>rcases pos _ _ hj with⟨l2,e2⟩ | ⟨l2,e2⟩
  ·exact h.apart i j b n c n' c' e1 e2
  ·exact absurd ((hd b).resolve_left (new _ _ _ e2)) (old _ _ _ _ e1)
  ·exact absurd ((hd b).resolve_left (new _ _ _ e1)) (old _ _ _ _ e2)
  ·omega
set_option maxHeartbeats 1000000 in
theorem c15o (m : Mx) (H:PH) (v:Value) (hv:MatH H v m) (hlen:m.length≤100000) (hrow:∀ r∈m,r.length≤100000) :
 Cl Tryz.prog 11 [v] H emp fun r H' M'=>∃ us,OwnS M' 1 22 r (us.map fun u=>[u])∧RowsS M' us m:=by
 obtain⟨base,cap,rfl⟩:=hv.sl
 refine Cl_of (pol:=fun | 15=>.imm | _=>.loc) Γok Tryz.func11 (by kernel_rfl) rfl ?_
 conv=>whnf
 refine W_loop (pol:=fun | 15=>.imm | _=>.loc) Γok (Nat × PH × Value × PH) (fun i=>i.1≤m.length∧Sub H i.2.1∧∃ us,OwnS i.2.2.2 1 22 i.2.2.1 (us.map fun u=>[u])∧RowsS i.2.2.2 us (m.take i.1)) (fun i=>m.length - i.1) (fun i=>[(8,.v (.int .i64 i.1)),(3,.v i.2.2.1)]) (fun _=>[]) (fun i=>i.2.1) (fun i=>i.2.2.2) ⟨(0,H,.slice none 0 0,emp),⟨by simp,Sub.refl _,[],?_,?_⟩,rfl,rfl,?_⟩ ?_
 ·exact⟨by simp,.inl ⟨rfl,by simp⟩⟩
 ·exact⟨by simp,by simp,by simp⟩
 ·conv=>whnf
  repeat (refine⟨rfl,?_⟩;conv=>whnf)
  exact trivial
 ·rintro ⟨i,H',out,O'⟩ ⟨h1,h2,us,h3,h4⟩
  dsimp only at h1 h2 h3 h4
  conv=>whnf
  refine if_intro (fun h=>?_) (fun h=>?_)
  ·have hi:i < m.length:=by simpa using h
   obtain⟨b,off,base',cap',rfl,hrd,hn⟩:=(hv.up h2).at hi
   conv=>whnf
   refine dec_intro (by simpa using hi) ?_
   conv=>whnf
   refine⟨_,hrd _ _ (Sub.refl _),?_⟩
   conv=>whnf
   refine (c43 m[i] _ _ hn (hrow _ (List.getElem_mem hi))).pure.mono fun r H2 O2 hs hr=>?_
   obtain⟨N,hp,hr⟩:=hr
   have hd:=hp.dis
   have h3':OwnS O2 1 22 out (us.map fun u=>[u]):=OwnS.keep h3 fun n cs hn=>hp.right _ _ hn
   have h4':RowsS O2 (us++[r]) (m.take i++[m[i]]):=by
    rw[show O2=un N O' from funext hp.all]
    exact h4.snoc hd hr
   obtain⟨rb,rn,rc,rfl⟩:=OwnS.sl hr
   conv=>whnf
   intro b2 hb2 hO2
   conv=>whnf
   refine append_one' (xs:=us.map fun u=>[u]) (y:=[.slice rb rn rc]) h3' rfl rfl (by intro v hv;simp at hv;subst hv;rfl) ⟨_,_,_,rfl,rfl,Rd.whole (ins_same _ _ _)⟩ ?_ fun v O3 hO3 hkeep=>?_
   ·have:=h4.len
    simp at this ⊢
    omega
   conv=>whnf
   have hs2:=sub_ins H2 (.cells ⟨[.slice rb rn rc]⟩ 22 (0,0)) hb2
   refine⟨(i+1,ins H2 b2 (.cells ⟨[.slice rb rn rc]⟩ 22 (0,0)),v,O3),⟨hi,(h2.trans hs).trans hs2,us++[.slice rb rn rc],?_,?_⟩,by dsimp only;omega,?_⟩
   ·show OwnS O3 1 22 v _
    rw[List.map_append]
    exact hO3
   ·dsimp only
    rw[List.take_succ_eq_append_getElem hi]
    exact h4'.keep fun n cs hn=>hkeep n _ hn fun cap=>OwnS.not_at h3' hn (by decide) _ _
   ·conv=>whnf
    refine⟨rfl,rfl,?_⟩
    conv=>whnf
    repeat (refine⟨rfl,?_⟩;conv=>whnf)
    refine⟨by show En.v (.int .i64 (IntKind.i64.wrap (i+1)))=_;rw[wrap_id (by omega) (by omega)];rfl,?_⟩
    conv=>whnf
    repeat (refine⟨rfl,?_⟩;conv=>whnf)
    exact trivial
  ·have hi:m.length≤i:=by simpa using h
   conv=>whnf
   rw[List.take_of_length_le hi] at h4
   exact⟨us,h3,h4⟩
theorem RowsS.share {H M : PH} (hd:Dis H M) {v:Value} {us:List Value} {m:Mx} (h:OwnS M 1 22 v (us.map fun u=>[u])) (hr:RowsS M us m):MatH (un H M) v m:=by
 refine⟨us,hr.len,?_,fun i r u hr' hu=>NumO.share (hr.row i u r hu hr') hd⟩
 have hl:=hr.len
 rcases h.2 with⟨rfl,h0⟩ | ⟨b,cap,spare,rfl,hO,hcap,hsp⟩
 ·have:us=[]:=by simpa using h0
  subst this
  exact⟨none,0,by rw[← hl];rfl,.inl ⟨hl.symm,rfl⟩⟩
 ·refine⟨some ⟨b,0,none⟩,cap,by simp[hl],.inr ⟨b,0,_,_,_,rfl,un_right hd hO,?_⟩⟩
  have:∀ us:List Value,(us.map fun u=>[u]).flatten=us:=by
   intro us
   induction us with
   | nil=>rfl
   | cons u us ih=>simp only[List.map_cons,List.flatten_cons,ih];rfl
  rw[this us]
  simp
theorem OwnS.at1 {H O : PH} {base:Option Addr} {n cap:Nat} {us:List Value} (h:OwnS O 1 22 (.slice base n cap) (us.map fun u=>[u])) {i:Nat} (hi:i < us.length) :
 n=us.length∧∃ b,base=some ⟨b,0,none⟩∧(∃ cs,O b=some (.cells ⟨cs⟩ 22 (0,0)))∧Rd H O ⟨b,0+i*1,none⟩ 1 [us[i]]:=by
 rcases h.2 with⟨e,h0⟩ | ⟨b,cap',spare,e,hO,hcap,hsp⟩
 ·have:us=[]:=by simpa using h0
  subst this
  simp at hi
 ·cases e
  have hfl:∀ us:List Value,(us.map fun u=>[u]).flatten=us:=by
   intro us
   induction us with
   | nil=>rfl
   | cons u us ih=>simp only[List.map_cons,List.flatten_cons,ih];rfl
  rw[hfl] at hO
  refine⟨by simp,b,rfl,⟨_,hO⟩,rfl,rfl,_,_,_,.inr hO,?_⟩
  rw[Nat.zero_add,Nat.mul_one]
  show List.take 1 (List.drop i (us++spare))=_
  rw[List.drop_append_of_le_length (by omega),List.drop_eq_getElem_cons hi]
  rfl
theorem Cl.own {P : Program} {f:FuncId} {args:List Value} {H M:PH} {Q:Value→PH→PH→Prop} (h:Cl P f args H M Q) :
 Cl P f args H M fun v H2 M2=>H2=H∧∃ H' M',Q v H' M'∧Sub H H'∧Dis H' M'∧Sub M' M2∧∀ n o,H n=none→H' n=some o→M2 n=some o:=by
 unfold Cl at *
 refine⟨h.1,fun w hH hM hd=>(h.2 w hH hM hd).mono ?_⟩
 rintro e w' ⟨v,H',M',he,p,hq⟩
 have hMn:∀ n o,M' n=some o→H n=none:=fun n o hn=>by
  cases e:H n with
  | none=>rfl
  | some o'=>
   have h1:=p.sub n o' e
   rcases p.dis n with h2 | h2
   ·rw[h1] at h2;cases h2
   ·rw[hn] at h2;cases h2
 refine⟨v,H,fun n=>match H n with | some _=>none | none=>un H' M' n,he,⟨Sub.refl H,In.sub p.inH p.sub,?_,?_,?_,p.frm⟩,rfl,H',M',hq,p.sub,p.dis,?_,?_⟩
 ·intro n o hn
  dsimp only at hn
  cases e:H n with
  | some o'=>rw[e] at hn;cases hn
  | none=>
   rw[e] at hn
   dsimp only at hn
   unfold un at hn
   cases e':H' n with
   | some o'=>rw[e'] at hn;cases hn;exact p.inH n _ e'
   | none=>rw[e'] at hn;exact p.inM n _ hn
 ·intro n
  cases e:H n with
  | none=>exact .inl rfl
  | some o=>exact .inr (by simp[e])
 ·intro n hn hm
  obtain⟨h1,h2⟩:=p.old n hn hm
  refine⟨rfl,?_⟩
  cases e:H n with
  | some o=>simp[e]
  | none=>
   rw[e] at h1
   simp[e,un,h1,h2]
 ·intro n o hn
  have h1:=hMn n o hn
  have h2:H' n=none:=(p.dis n).resolve_right (by rw[hn];simp)
  simp[h1,un,h2,hn]
 ·intro n o h1 h2
  simp[h1,un,h2]
structure HalfM (O : PH) (b0 h w:Nat) (bs:List Nat) (m:Mx):Prop where
 rows:RowsO O bs m
 nb:b0 ∉ bs
 list:O b0=some (.cells ⟨bs.map (fun b=>rowV b w)++List.replicate (h - bs.length) (.slice none 0 0)⟩ 22 (0,0))
 wid:∀ (i:Nat) r,m[i]?=some r→r.length=w
theorem HalfM.start (b0 h w : Nat) (O:PH):HalfM (ins O b0 (.cells ⟨(List.replicate h [Value.slice none 0 0]).flatten⟩ 22 (0,0))) b0 h w [] []:=by
 refine⟨⟨rfl,List.nodup_nil,by simp⟩,by simp,?_,by simp⟩
 rw[ins_same]
 simp
theorem HalfM.ne {O : PH} {b0 h w:Nat} {bs:List Nat} {m:Mx} (g:HalfM O b0 h w bs m) {b:Nat} (hb:O b=none):b0 ≠ b:=fun e=>by
 subst e
 rw[g.list] at hb
 cases hb
theorem HalfM.row {O : PH} {b0 h w:Nat} {bs:List Nat} {m:Mx} (g:HalfM O b0 h w bs m) {i:Nat} (hi:i=bs.length) (hl:i < h) {b:Nat} (hb:O b=none) :
 ∃ cs,ins O b (.cells ⟨(List.replicate w [.int .i64 0,.int .i64 0,.int .i64 0,.int .i64 0,.int .i64 0]).flatten⟩ 25 (0,0)) b0=some (.cells ⟨cs⟩ 22 (0,0))∧0+i*1+1≤cs.length ∧
  HalfM (ins (ins O b (.cells ⟨(List.replicate w [.int .i64 0,.int .i64 0,.int .i64 0,.int .i64 0,.int .i64 0]).flatten⟩ 25 (0,0))) b0 (.cells ⟨cs.take (0+i*1)++[rowV b w]++cs.drop (0+i*1+1)⟩ 22 (0,0))) b0 h w (bs++[b]) (m++[zeros w]):=by
 have hne:=g.ne hb
 have hcz:(List.replicate w [.int .i64 0,.int .i64 0,.int .i64 0,.int .i64 0,.int .i64 0]).flatten=cellsN (zeros w):=by
  unfold cellsN zeros
  rw[List.map_replicate]
  rfl
 rw[hcz]
 refine⟨_,(ins_ne _ _ hne).trans g.list,by simp;omega,⟨?_,?_,?_,?_⟩⟩
 ·refine (g.rows.snoc hb).other ?_
  have:=g.nb
  simp[this,hne]
 ·have:=g.nb
  simp[this,hne]
 ·rw[ins_same]
  have:=set_at (bs.map fun b=>rowV b w) (.slice none 0 0) (rowV b w) (i:=i) (h:=h) (by simpa using hi.symm) hl
  rw[hi] at this ⊢
  rw[this]
  simp
 ·intro j r hr
  rcases Nat.lt_trichotomy j m.length with hj | hj | hj
  ·rw[List.getElem?_append_left hj] at hr
   exact g.wid j r hr
  ·subst hj
   rw[List.getElem?_concat_length] at hr
   cases hr
   simp[zeros]
  ·rw[List.getElem?_eq_none (by simp;omega)] at hr
   cases hr
theorem HalfM.at {O : PH} {b0 h w:Nat} {bs:List Nat} {m:Mx} (g:HalfM O b0 h w bs m) {i:Nat} (hi:i < m.length) (H:PH) :
 ∃ b,bs[i]?=some b∧b ≠ b0∧m[i].length=w∧O b=some (.cells ⟨cellsN m[i]⟩ 25 (0,0))∧Rd H O ⟨b0,0+i*1,none⟩ 1 [.slice (some ⟨b,0,none⟩) w w]:=by
 have hib:i < bs.length:=by rw[g.rows.len];exact hi
 refine⟨bs[i],List.getElem?_eq_getElem hib,fun e=>g.nb (by rw[← e];exact List.getElem_mem hib),g.wid _ _ (List.getElem?_eq_getElem hi),g.rows.cells _ _ _ (List.getElem?_eq_getElem hib) (List.getElem?_eq_getElem hi),rfl,rfl,_,_,_,.inr g.list,?_⟩
 dsimp only
 rw[Nat.zero_add,Nat.mul_one,List.drop_append_of_le_length (by simpa using Nat.le_of_lt hib),List.drop_eq_getElem_cons (by simpa using hib)]
 simp[rowV]
theorem cellsN_setA : ∀ (r:List (P4 × Int)) (k:Nat) (a:Int) (hk:k < r.length),(cellsN r).take (0+k*5+0)++[.int .i64 a]++(cellsN r).drop (0+k*5+0+1)=cellsN (r.set k ((⟨a,r[k].1.b,r[k].1.c,r[k].1.d⟩:P4),r[k].2))
 | y::r,0,a,_=>by
  simp only[cellsN,List.set_cons_zero,List.map_cons,List.flatten_cons]
  rfl
 | y::r,k+1,a,h=>by
  have ih:=cellsN_setA r k a (by simpa using h)
  simp only[cellsN,List.set_cons_succ,List.map_cons,List.flatten_cons,List.getElem_cons_succ] at ih ⊢
  rw[← ih]
  have e:0+(k+1)*5+0=(0+k*5+0)+5:=by omega
  have e2:0+(k+1)*5+0+1=(0+k*5+0+1)+5:=by omega
  rw[e2,e]
  simp[cellsOf,List.take_succ_cons]
theorem HalfM.upd {O : PH} {b0 h w:Nat} {bs:List Nat} {m:Mx} (g:HalfM O b0 h w bs m) {i k b:Nat} (x:P4 × Int) (hb:bs[i]?=some b):HalfM (ins O b (.cells ⟨cellsN ((m.getD i []).set k x)⟩ 25 (0,0))) b0 h w bs (setM m i k x):=by
 have hne:b0 ≠ b:=fun e=>g.nb (by rw[e];exact List.mem_of_getElem? hb)
 have hml:m.length=m.length:=rfl
 refine⟨g.rows.set x hb,g.nb,(ins_ne _ _ hne).trans g.list,fun j r hr=>?_⟩
 exact (setM_shape (h:=m.length) rfl g.wid i k x).2 j r hr
theorem HalfM.own {O : PH} {b0 h w:Nat} {bs:List Nat} {m:Mx} (g:HalfM O b0 h w bs m) (hl:m.length=h):OwnM O (.slice (some ⟨b0,0,none⟩) h h) h w m:=by
 refine⟨hl,g.wid,bs,b0,g.rows,g.nb,rfl,?_⟩
 have:=g.list
 rw[g.rows.len,hl,Nat.sub_self,List.replicate_zero,List.append_nil] at this
 exact this
def diagR (x : Nat→P4 × Int) (w i:Nat):Mx:=(List.range i).map fun p=>(zeros w).set p (x p)
theorem diagR_succ (x : Nat→P4 × Int) (w i:Nat):diagR x w (i+1)=diagR x w i++[(zeros w).set i (x i)]:=by
 unfold diagR
 rw[List.range_succ,List.map_append]
 rfl
theorem diagR_len (x : Nat→P4 × Int) (w i:Nat):(diagR x w i).length=i:=by simp[diagR]
theorem setM_last (m : Mx) (r:List (P4 × Int)) {i:Nat} (hi:i=m.length) (k:Nat) (x:P4 × Int):setM (m++[r]) i k x=m++[r.set k x]:=by
 subst hi
 unfold setM
 rw[List.getD_eq_getElem?_getD,List.getElem?_concat_length,Option.getD_some]
 simp
theorem getElem_last {m : Mx} {r:List (P4 × Int)} {i:Nat} (hi:i=m.length) (h:i < (m++[r]).length):(m++[r])[i]=r:=by
 subst hi
 simp
theorem HalfM.setA {O : PH} {b0 h w:Nat} {bs:List Nat} {m:Mx} (g:HalfM O b0 h w bs m) {i k b:Nat} (a:Int) (hb:bs[i]?=some b) (hi:i < m.length) (hk:k < m[i].length) :
 HalfM (ins O b (.cells ⟨(cellsN m[i]).take (0+k*5+0)++[.int .i64 a]++(cellsN m[i]).drop (0+k*5+0+1)⟩ 25 (0,0))) b0 h w bs (setM m i k ((⟨a,m[i][k].1.b,m[i][k].1.c,m[i][k].1.d⟩:P4),m[i][k].2)):=by
 have h1:=g.upd (i:=i) (k:=k) ((⟨a,m[i][k].1.b,m[i][k].1.c,m[i][k].1.d⟩:P4),m[i][k].2) hb
 rw[show m.getD i []=m[i] by simp[List.getD_eq_getElem?_getD,hi]] at h1
 rw[cellsN_setA m[i] k a hk]
 exact h1
theorem HalfM.setN {O : PH} {b0 h w:Nat} {bs:List Nat} {m:Mx} (g:HalfM O b0 h w bs m) {i k b:Nat} (x:P4 × Int) (hb:bs[i]?=some b) (hi:i < m.length) (hk:k < m[i].length) :
 HalfM (ins O b (.cells ⟨(cellsN m[i]).take (0+k*5)++cellsOf x++(cellsN m[i]).drop (0+k*5+5)⟩ 25 (0,0))) b0 h w bs (setM m i k x):=by
 have h1:=g.upd (i:=i) (k:=k) x hb
 rw[show m.getD i []=m[i] by simp[List.getD_eq_getElem?_getD,hi]] at h1
 rw[cellsN_set m[i] k x hk]
 exact h1
def IdMR (n : Int):Mx × Int:=if n < 0∨n > 6 then ([],3) else (diagR (fun _=>oneN) (2 ^ n.toNat) (2 ^ n.toNat),0)
theorem c17o (n : Int) (H:PH):Cl Tryz.prog 61 [.int .i64 n] H emp fun r _ M'=>∃ u,r=.tuple #[u,.int .i64 (IdMR n).2]∧OwnQ M' u (IdMR n).1:=by
 refine Cl_of (pol:=polL) Γok Tryz.func61 (by kernel_rfl) rfl ?_
 conv=>whnf
 unfold IdMR
 refine if_intro (fun h=>?_) (fun h=>?_)
 ·have h:=of_decide_eq_true h
  conv=>whnf
  rw[if_pos (.inl h)]
  exact⟨_,rfl,.inl ⟨rfl,rfl⟩⟩
 have h1:=of_decide_eq_false h
 conv=>whnf
 refine if_intro (fun h=>?_) (fun h=>?_)
 ·have h:=of_decide_eq_true h
  conv=>whnf
  rw[if_pos (.inr h)]
  exact⟨_,rfl,.inl ⟨rfl,rfl⟩⟩
 have h2:=of_decide_eq_false h
 rw[if_neg (by omega)]
 obtain⟨n,rfl⟩:=nat_of (a:=n) (by omega)
 rw[Int.toNat_natCast]
 have p2:2 ^ n≤64:=by
  have:2 ^ n≤2 ^ 6:=Nat.pow_le_pow_right (by decide) (by omega)
  omega
 conv=>whnf
 rw[shl1 (by omega)]
 obtain⟨s,hs⟩:∃ s,s=2 ^ n:=⟨_,rfl⟩
 rw[← hs] at p2 ⊢
 refine dec_intro (Int.le_refl _) ?_
 conv=>whnf
 refine dec_intro (by omega) ?_
 conv=>whnf
 refine dec_intro (by omega) ?_
 conv=>whnf
 intro b0 hb0 _
 conv=>whnf
 refine W_loop (pol:=polL) Γok (Nat × List Nat × PH) (fun i=>i.1≤s∧HalfM i.2.2 b0 s s i.2.1 (diagR (fun _=>oneN) s i.1)) (fun i=>s - i.1) (fun i=>[(6,.v (.int .i64 i.1))]) (fun _=>[]) (fun _=>H) (fun i=>i.2.2) ⟨(0,[],_),⟨by simp,HalfM.start b0 s s emp⟩,rfl,rfl,?_⟩ ?_
 ·conv=>whnf
  repeat (refine⟨rfl,?_⟩;conv=>whnf)
  exact trivial
 ·rintro ⟨i,bs,O'⟩ ⟨h1,g⟩
  dsimp only at h1 g
  conv=>whnf
  refine if_intro (fun hc=>?_) (fun hc=>?_)
  ·have hi:i < s:=by simpa using hc
   have hbl:i=bs.length:=by rw[g.rows.len,diagR_len]
   conv=>whnf
   refine dec_intro (Int.le_refl _) ?_
   conv=>whnf
   refine dec_intro (by omega) ?_
   conv=>whnf
   refine dec_intro (by omega) ?_
   conv=>whnf
   intro b hb hO
   conv=>whnf
   refine dec_intro (by omega) ?_
   conv=>whnf
   obtain⟨cs,q1,q2,g2⟩:=g.row hbl hi hO
   refine⟨cs,_,q1,q2,?_⟩
   conv=>whnf
   have hml:i=(diagR (fun _=>oneN) s i).length:=(diagR_len _ _ _).symm
   have him:i < (diagR (fun _=>oneN) s i++[zeros s]).length:=by rw[List.length_append,diagR_len];simp
   obtain⟨b',hb',hne,hl,hOb,hrd⟩:=g2.at him H
   have hzl:(zeros s).length=s:=by simp[zeros]
   have hk:i < ((diagR (fun _=>oneN) s i++[zeros s])[i]).length:=by rw[getElem_last hml,hzl];exact hi
   have g3:=g2.setA 1 hb' him hk
   refine dec_intro (by omega) ?_
   conv=>whnf
   refine⟨[.slice (some ⟨b',0,none⟩) s s],hrd,?_⟩
   conv=>whnf
   refine dec_intro (by omega) ?_
   conv=>whnf
   refine⟨_,_,hOb,?_,?_⟩
   ·show _≤(cellsN _).length
    rw[cellsN_length,hl]
    simp only[Int.toNat_natCast,List.length_cons,List.length_nil]
    omega
   conv=>whnf
   have key:∀ r,r=zeros s→∀ hk:i < r.length,(((⟨1,r[i].1.b,r[i].1.c,r[i].1.d⟩:P4),r[i].2):P4 × Int)=oneN:=by
    rintro r rfl hk
    simp[zeros,oneN,P4.zero]
   rw[key _ (getElem_last hml him) hk,setM_last _ _ hml,← diagR_succ (fun _=>oneN)] at g3
   refine⟨(i+1,bs++[b],_),⟨hi,g3⟩,by dsimp only;omega,?_⟩
   refine⟨rfl,rfl,?_⟩
   conv=>whnf
   repeat (refine⟨rfl,?_⟩;conv=>whnf)
   refine⟨by show En.v (.int .i64 (IntKind.i64.wrap (i+1)))=_;rw[wrap_id (by omega) (by omega)];rfl,?_⟩
   conv=>whnf
   repeat (refine⟨rfl,?_⟩;conv=>whnf)
   exact trivial
  ·have hi:i=s:=by
    have h:=of_decide_eq_false hc
    omega
   subst hi
   conv=>whnf
   exact⟨_,rfl,.inr ⟨i,i,by omega,by omega,g.own (diagR_len _ _ _)⟩⟩
theorem flat_oneI : ∀ l:List Int,(l.map fun x=>[Value.int .i64 x]).flatten=l.map fun x=>.int .i64 x
 | []=>rfl
 | x::l=>by
  rw[List.map_cons,List.flatten_cons,flat_oneI l]
  rfl
abbrev IntsO (O : PH) (v:Value) (l:List Int):Prop:=OwnS O 1 3 v (l.map fun x=>[.int .i64 x])
theorem IntsO.pub {H M : PH} (hd:Dis H M) {v:Value} {l:List Int} (h:IntsO M v l):∃ H' M',Repart H M H' M'∧IntsH H' v l:=by
 obtain⟨h1,h⟩:=h
 rcases h with⟨rfl,h⟩ | ⟨b,cap,spare,rfl,hO,hcap,hsp⟩
 ·have:l=[]:=by simpa using h
  subst this
  exact⟨H,M,.refl hd,none,0,rfl,.inl ⟨rfl,rfl⟩⟩
 ·refine⟨_,_,.one hd hO,some ⟨b,0,none⟩,cap,by simp,.inr ⟨b,0,_,_,_,rfl,ins_same _ _ _,?_⟩⟩
  rw[flat_oneI]
  simp
theorem c16 (l : List Int) (hlen:l.length≤100000) (H:PH) (v:Value) (hv:IntsH H v l):Cl Tryz.prog 21 [v] H emp fun r _ M'=>IntsO M' r l:=by
 obtain⟨base,cap,rfl,hv'⟩:=id hv
 refine Cl_of (pol:=fun _=>.own) Γok Tryz.func21 (by kernel_rfl) rfl ?_
 conv=>whnf
 refine if_intro (fun h=>?_) (fun h=>?_)
 ·conv=>whnf
  rcases hv' with⟨h',_⟩ | ⟨_,_,_,_,_,h',_⟩
  ·have:l=[]:=by simpa using h'
   subst this
   exact⟨by simp,.inl ⟨rfl,rfl⟩⟩
  ·rw[h'] at h;cases h
 ·conv=>whnf
  intro b hb hO
  conv=>whnf
  have hfl:=flat_oneI l
  refine append_many (xs:=[]) (ys:=l.map fun x=>[.int .i64 x]) ⟨by simp,.inr ⟨b,0,[],rfl,by rw[ins_same];rfl,Nat.le_refl _,by simp⟩⟩ rfl (fun y hy=>?_) ?_ ⟨base,cap,by simp,fun hb=>?_,fun a ha hpos=>?_⟩ ?_ fun v O2 hO2 hfr=>?_
  ·obtain⟨x,_,rfl⟩:=List.mem_map.1 hy
   rfl
  ·rw[hfl]
   intro v hv
   obtain⟨x,_,rfl⟩:=List.mem_map.1 hv
   rfl
  ·rcases hv' with⟨h',_⟩ | ⟨_,_,_,_,_,h',_⟩
   ·have:l=[]:=by simpa using h'
    rw[this];rfl
   ·rw[hb] at h';cases h'
  ·rcases hv' with⟨h',_⟩ | ⟨b1,off1,c,t,fr,h1,h2,h3⟩
   ·simp at hpos;omega
   ·rw[ha] at h1;cases h1
    refine⟨rfl,by rw[hfl];simp,c,t,fr,.inl h2,?_⟩
    rw[hfl]
    simpa using h3
  ·simp
   omega
  conv=>whnf
  exact hO2
theorem IntsH.at {H : PH} {base:Option Addr} {n cap:Nat} {l:List Int} (h:IntsH H (.slice base n cap) l) {i:Nat} (hi:i < l.length) :
 ∃ b off,base=some ⟨b,off,none⟩∧∀ H' O,Sub H H'→Rd H' O ⟨b,off+i*1,none⟩ 1 [.int .i64 l[i]]:=by
 obtain⟨b,off,hb,hrd⟩:=IntsH.rd h hi
 exact⟨b,off,hb,fun _ _ hs=>Rd_up (hrd emp) hs⟩
theorem c25 (l k : List Int) (hlen:l.length < 9223372036854775808) (H:PH) (u v:Value) (hu:IntsH H u l) (hv:IntsH H v k):Cl Tryz.prog 92 [u,v] H emp fun r _ _=>r=.bool (decide (l=k)):=by
 obtain⟨base,cap,rfl,_⟩:=id hu
 obtain⟨base',cap',rfl,_⟩:=id hv
 refine Cl_of (pol:=polL) Γok Tryz.func92 (by kernel_rfl) rfl ?_
 conv=>whnf
 refine if_intro (fun h=>?_) (fun h=>?_)
 ·conv=>whnf
  rw[decide_eq_false (fun e=>by rw[e] at h;simp at h)]
 have hl:l.length=k.length:=by
  have:(l.length:Int)=k.length:=by simpa using h
  omega
 conv=>whnf
 refine W_loop (pol:=polL) Γok (Nat × PH) (fun i=>i.1≤l.length∧Sub H i.2∧l.take i.1=k.take i.1) (fun i=>l.length - i.1) (fun i=>[(13,.v (.int .i64 i.1))]) (fun _=>[]) (fun i=>i.2) (fun _=>emp) ⟨(0,H),⟨by simp,Sub.refl _,by simp⟩,rfl,rfl,?_⟩ ?_
 ·conv=>whnf
  repeat (refine⟨rfl,?_⟩;conv=>whnf)
  exact trivial
 ·rintro ⟨i,H'⟩ ⟨h1,h2,h3⟩
  dsimp only at h1 h2 h3
  conv=>whnf
  refine if_intro (fun hc=>?_) (fun hc=>?_)
  ·have hi:i < l.length:=by simpa using hc
   have hk:i < k.length:=by omega
   obtain⟨b,off,rfl,hx⟩:=IntsH.at hu hi
   obtain⟨b',off',rfl,hy⟩:=IntsH.at hv hk
   conv=>whnf
   refine W_draw (pol:=polL) Γok mixes [(0,.pendO),(1,.pendO),(2,.pendO),(3,.pendO),(4,.pendO),(5,.pendO),(6,.pendO),(7,.pendO),(8,.pendO)] 26 (by kernel_rfl) rfl ?_
   conv=>whnf
   refine dec_intro (by omega) ?_
   conv=>whnf
   refine⟨_,hx _ _ h2,?_⟩
   conv=>whnf
   refine dec_intro (by omega) ?_
   conv=>whnf
   refine⟨_,hy _ _ h2,?_⟩
   conv=>whnf
   refine if_intro (fun hq=>?_) (fun hq=>?_)
   ·conv=>whnf
    rw[decide_eq_false (fun e=>by subst e;simp at hq)]
   ·have hq:l[i]=k[i]:=by simpa using hq
    conv=>whnf
    refine⟨(i+1,H'),⟨hi,h2,?_⟩,by dsimp only;omega,?_⟩
    ·dsimp only
     rw[List.take_succ_eq_append_getElem hi,List.take_succ_eq_append_getElem hk,h3,hq]
    conv=>whnf
    refine⟨rfl,rfl,?_⟩
    conv=>whnf
    repeat (refine⟨rfl,?_⟩;conv=>whnf)
    refine⟨by show En.v (.int .i64 (IntKind.i64.wrap (i+1)))=_;rw[wrap_id (by omega) (by omega)];rfl,?_⟩
    conv=>whnf
    repeat (refine⟨rfl,?_⟩;conv=>whnf)
    exact trivial
  ·have hi:l.length≤i:=by simpa using hc
   conv=>whnf
   rw[List.take_of_length_le hi,List.take_of_length_le (by omega)] at h3
   rw[decide_eq_true h3]
def placesR (ws : List Int) (n:Int):Int:=if ws.all (inW n)=false then 1 else if twiceF ws then 5 else 0
theorem c70 (ws : List Int) (n:Int) (hlen:ws.length < 1000000) (H:PH) (v:Value) (hv:IntsH H v ws):Cl Tryz.prog 146 [v,.int .i64 n] H emp fun r _ _=>r=.int .i64 (placesR ws n):=by
 obtain⟨base,cap,rfl,_⟩:=id hv
 refine Cl_of (pol:=polL) Γok Tryz.func146 (by kernel_rfl) rfl ?_
 conv=>whnf
 refine W_loopX (pol:=polL) Γok (Nat × PH) (fun i=>i.1≤ws.length∧Sub H i.2∧∀ x∈ws.take i.1,inW n x=true) (fun i=>ws.length - i.1) (fun e i=>e=.exit 0∧Sub H i.2∧ws.all (inW n)=true) (fun i=>[(5,.v (.int .i64 i.1))]) (fun _=>[]) (fun i=>i.2) (fun _=>emp) ⟨(0,H),⟨by simp,Sub.refl _,by simp⟩,rfl,rfl,?_⟩ ?_ ?_
 ·conv=>whnf
  repeat (refine⟨rfl,?_⟩;conv=>whnf)
  exact trivial
 ·rintro ⟨i,H'⟩ ⟨h1,h2,h3⟩
  dsimp only at h1 h2 h3
  conv=>whnf
  refine if_intro (fun hc=>?_) (fun hc=>?_)
  ·have hi:i < ws.length:=by simpa using hc
   obtain⟨b,off,rfl,hx⟩:=IntsH.at hv hi
   have bad:inW n ws[i]=false→placesR ws n=1:=fun h=>by
    unfold placesR
    rw[if_pos]
    rw[List.all_eq_false]
    exact⟨_,List.getElem_mem hi,by rw[h];simp⟩
   conv=>whnf
   refine dec_intro (by omega) ?_
   conv=>whnf
   refine⟨_,hx _ _ h2,?_⟩
   conv=>whnf
   refine if_intro (fun hq=>?_) (fun hq=>?_)
   ·have hq:=of_decide_eq_true hq
    conv=>whnf
    refine .inl ?_
    conv=>whnf
    rw[bad (by unfold inW;simp;omega)]
   have hq:=of_decide_eq_false hq
   conv=>whnf
   refine dec_intro (by omega) ?_
   conv=>whnf
   refine⟨_,hx _ _ h2,?_⟩
   conv=>whnf
   refine if_intro (fun hq2=>?_) (fun hq2=>?_)
   ·have hq2:=of_decide_eq_true hq2
    conv=>whnf
    refine .inl ?_
    conv=>whnf
    rw[bad (by unfold inW;simp;omega)]
   have hq2:=of_decide_eq_false hq2
   conv=>whnf
   refine⟨(i+1,H'),⟨hi,h2,?_⟩,by dsimp only;omega,?_⟩
   ·dsimp only
    rw[List.take_succ_eq_append_getElem hi]
    intro x hx
    rcases List.mem_append.1 hx with hx | hx
    ·exact h3 x hx
    ·simp at hx
     subst hx
     unfold inW
     simp
     omega
   conv=>whnf
   refine⟨rfl,rfl,?_⟩
   conv=>whnf
   repeat (refine⟨rfl,?_⟩;conv=>whnf)
   refine⟨by show En.v (.int .i64 (IntKind.i64.wrap (i+1)))=_;rw[wrap_id (by omega) (by omega)];rfl,?_⟩
   conv=>whnf
   repeat (refine⟨rfl,?_⟩;conv=>whnf)
   exact trivial
  ·have hi:ws.length≤i:=by simpa using hc
   conv=>whnf
   rw[List.take_of_length_le hi] at h3
   refine .inr ⟨(i,H'),⟨rfl,h2,List.all_eq_true.2 h3⟩,rfl,rfl,?_⟩
   conv=>whnf
   repeat (refine⟨rfl,?_⟩;conv=>whnf)
   exact trivial
 rintro e ⟨i,H1⟩ ⟨rfl,s1,hall⟩
 dsimp only at s1
 unfold placesR
 rw[if_neg (by rw[hall];simp)]
 conv=>whnf
 refine W_loop (pol:=polL) Γok (Nat × PH) (fun i=>i.1≤ws.length∧Sub H1 i.2∧∀ q,q < i.1→(ws.take q).contains (ws.getD q 0)=false) (fun i=>ws.length - i.1) (fun i=>[(6,.v (.int .i64 i.1))]) (fun _=>[]) (fun i=>i.2) (fun _=>emp) ⟨(0,H1),⟨by simp,Sub.refl _,by simp⟩,rfl,rfl,?_⟩ ?_
 ·conv=>whnf
  repeat (refine⟨rfl,?_⟩;conv=>whnf)
  exact trivial
 ·rintro ⟨i,H'⟩ ⟨h1,h2,h3⟩
  dsimp only at h1 h2 h3
  conv=>whnf
  refine if_intro (fun hc=>?_) (fun hc=>?_)
  ·have hi:i < ws.length:=by simpa using hc
   have hgi:ws.getD i 0=ws[i]:=by simp[List.getD_eq_getElem?_getD,hi]
   conv=>whnf
   refine W_loopX (pol:=polL) Γok (Nat × PH) (fun k=>k.1≤i∧Sub H' k.2∧∀ q (hq:q < ws.length),q < k.1→ws[i] ≠ ws[q]) (fun k=>i - k.1) (fun e k=>e=.exit 4∧Sub H' k.2∧(ws.take i).contains (ws.getD i 0)=false) (fun k=>[(7,.v (.int .i64 k.1))]) (fun _=>[]) (fun k=>k.2) (fun _=>emp) ⟨(0,H'),⟨by simp,Sub.refl _,by simp⟩,rfl,rfl,?_⟩ ?_ ?_
   ·conv=>whnf
    repeat (refine⟨rfl,?_⟩;conv=>whnf)
    exact trivial
   ·rintro ⟨k,H2⟩ ⟨k1,k2,k3⟩
    dsimp only at k1 k2 k3
    conv=>whnf
    refine if_intro (fun hc=>?_) (fun hc=>?_)
    ·have hk:k < i:=by
      have:=of_decide_eq_true hc
      omega
     obtain⟨b,off,rfl,hx⟩:=IntsH.at hv hi
     obtain⟨b',off',hbe,hy⟩:=IntsH.at hv (show k < ws.length by omega)
     cases hbe
     have s2:=s1.trans (h2.trans k2)
     conv=>whnf
     refine W_draw (pol:=polL) Γok mixes [(0,.pendO),(1,.pendO),(2,.pendO),(3,.pendO),(4,.pendO),(5,.pendO),(6,.pendO),(7,.pendO),(8,.pendO)] 47 (by kernel_rfl) rfl ?_
     conv=>whnf
     refine dec_intro (by omega) ?_
     conv=>whnf
     refine⟨_,hx _ _ s2,?_⟩
     conv=>whnf
     refine dec_intro (by omega) ?_
     conv=>whnf
     refine⟨_,hy _ _ s2,?_⟩
     conv=>whnf
     refine if_intro (fun hq=>?_) (fun hq=>?_)
     ·have hq:ws[i]=ws[k]:=by simpa using hq
      conv=>whnf
      refine .inl ?_
      conv=>whnf
      rw[if_pos]
      unfold twiceF
      rw[List.any_eq_true]
      refine⟨i,List.mem_range.2 hi,?_⟩
      rw[hgi,hq]
      rw[List.contains_iff_mem]
      exact List.mem_take_iff_getElem.2 ⟨k,by omega,rfl⟩
     ·have hq:ws[i] ≠ ws[k]:=by simpa using hq
      conv=>whnf
      refine⟨(k+1,H2),⟨hk,k2,fun q hq' hlt=>?_⟩,by dsimp only;omega,?_⟩
      ·dsimp only at hlt
       rcases Nat.lt_or_ge q k with h | h
       ·exact k3 q hq' h
       ·have:q=k:=by omega
        subst this
        exact hq
      conv=>whnf
      refine⟨rfl,rfl,?_⟩
      conv=>whnf
      repeat (refine⟨rfl,?_⟩;conv=>whnf)
      refine⟨by show En.v (.int .i64 (IntKind.i64.wrap (k+1)))=_;rw[wrap_id (by omega) (by omega)];rfl,?_⟩
      conv=>whnf
      repeat (refine⟨rfl,?_⟩;conv=>whnf)
      exact trivial
    ·have hk:i≤k:=by
      have:=of_decide_eq_false hc
      omega
     conv=>whnf
     refine .inr ⟨(k,H2),⟨rfl,k2,?_⟩,rfl,rfl,?_⟩
     ·rw[hgi]
      cases hct:(ws.take i).contains ws[i] with
      | false=>rfl
      | true=>
       rw[List.contains_iff_mem] at hct
       obtain⟨q,hq,e⟩:=List.mem_take_iff_getElem.1 hct
       exact absurd e.symm (k3 q (by omega) (by omega))
     conv=>whnf
     repeat (refine⟨rfl,?_⟩;conv=>whnf)
     exact trivial
   ·rintro e ⟨k,H2⟩ ⟨rfl,k2,k3⟩
    dsimp only at k2 k3
    conv=>whnf
    refine⟨(i+1,H2),⟨hi,h2.trans k2,fun q hq=>?_⟩,by dsimp only;omega,?_⟩
    ·dsimp only at hq
     rcases Nat.lt_or_ge q i with h | h
     ·exact h3 q h
     ·have:q=i:=by omega
      subst this
      exact k3
    conv=>whnf
    refine⟨rfl,rfl,?_⟩
    conv=>whnf
    repeat (refine⟨rfl,?_⟩;conv=>whnf)
    refine⟨by show En.v (.int .i64 (IntKind.i64.wrap (i+1)))=_;rw[wrap_id (by omega) (by omega)];rfl,?_⟩
    conv=>whnf
    repeat (refine⟨rfl,?_⟩;conv=>whnf)
    exact trivial
  ·have hi:ws.length≤i:=by simpa using hc
   conv=>whnf
   rw[if_neg]
   unfold twiceF
   rw[Bool.not_eq_true,List.any_eq_false]
   intro q hq
   rw[h3 q (by have:=List.mem_range.1 hq;omega)]
   simp
def LowM (m : Mx):Prop:=∀ r∈m,∀ x∈r,x.1.b=0∧x.1.c=0∧x.1.d=0∧x.2=0
theorem LowM.set {m : Mx} (h:LowM m) (i k:Nat):LowM (setM m i k oneN):=by
 intro r hr x hx
 unfold setM at hr
 rcases List.mem_or_eq_of_mem_set hr with h1 | h1
 ·exact h r h1 x hx
 ·subst h1
  rcases List.mem_or_eq_of_mem_set hx with h2 | h2
  ·rw[List.getD_eq_getElem?_getD] at h2
   cases e:m[i]? with
   | none=>rw[e] at h2;simp at h2
   | some r'=>
    rw[e] at h2
    exact h r' (List.mem_of_getElem? e) x h2
  ·subst h2
   exact⟨rfl,rfl,rfl,rfl⟩
theorem movedM_low (t : Nat→Nat) (n:Nat):∀ k,LowM (movedM t n k)
 | 0=>fun r hr x hx=>by
  have hr:=List.eq_of_mem_replicate hr
  subst hr
  have hx:=List.eq_of_mem_replicate hx
  subst hx
  exact⟨rfl,rfl,rfl,rfl⟩
 | k+1=>(movedM_low t n k).set _ _
theorem movedM_len (t : Nat→Nat) (n:Nat):∀ k,(movedM t n k).length=n
 | 0=>by simp[movedM]
 | k+1=>by
  unfold movedM setM
  rw[List.length_set,movedM_len t n k]
theorem c68 (to : List Int) (t:Nat→Nat) (hn:to.length < 1000) (ht:∀ k,k < to.length→to[k]?=some (t k:Int)∧t k < to.length) (H:PH) (v:Value) (hv:IntsH H v to) :
 Cl Tryz.prog 184 [v] H emp fun r _ M'=>OwnQ M' r (movedM t to.length to.length):=by
 obtain⟨base,cap,rfl,_⟩:=id hv
 refine Cl_of (pol:=polL) Γok Tryz.func184 (by kernel_rfl) rfl ?_
 conv=>whnf
 refine dec_intro (Int.le_refl _) ?_
 conv=>whnf
 refine dec_intro (by omega) ?_
 conv=>whnf
 refine dec_intro (by omega) ?_
 conv=>whnf
 intro b0 hb0 _
 conv=>whnf
 obtain⟨s,hs⟩:∃ s,s=to.length:=⟨_,rfl⟩
 rw[← hs] at hn ht ⊢
 refine W_loop (pol:=polL) Γok (Nat × List Nat × PH) (fun i=>i.1≤s∧HalfM i.2.2 b0 s s i.2.1 (List.replicate i.1 (zeros s))) (fun i=>s - i.1) (fun i=>[(4,.v (.int .i64 i.1))]) (fun _=>[]) (fun _=>H) (fun i=>i.2.2) ⟨(0,[],_),⟨by simp,HalfM.start b0 s s emp⟩,rfl,rfl,?_⟩ ?_
 ·conv=>whnf
  repeat (refine⟨rfl,?_⟩;conv=>whnf)
  exact trivial
 ·rintro ⟨i,bs,O'⟩ ⟨h1,g⟩
  dsimp only at h1 g
  conv=>whnf
  refine if_intro (fun hc=>?_) (fun hc=>?_)
  ·have hi:i < s:=by simpa using hc
   have hbl:i=bs.length:=by rw[g.rows.len,List.length_replicate]
   conv=>whnf
   refine dec_intro (Int.le_refl _) ?_
   conv=>whnf
   refine dec_intro (by omega) ?_
   conv=>whnf
   refine dec_intro (by omega) ?_
   conv=>whnf
   intro b hb hO
   conv=>whnf
   refine dec_intro (by omega) ?_
   conv=>whnf
   obtain⟨cs,q1,q2,g2⟩:=g.row hbl hi hO
   rw[← List.replicate_succ'] at g2
   refine⟨cs,_,q1,q2,?_⟩
   conv=>whnf
   refine⟨(i+1,bs++[b],_),⟨hi,g2⟩,by dsimp only;omega,?_⟩
   refine⟨rfl,rfl,?_⟩
   conv=>whnf
   repeat (refine⟨rfl,?_⟩;conv=>whnf)
   refine⟨by show En.v (.int .i64 (IntKind.i64.wrap (i+1)))=_;rw[wrap_id (by omega) (by omega)];rfl,?_⟩
   conv=>whnf
   repeat (refine⟨rfl,?_⟩;conv=>whnf)
   exact trivial
  have hi:i=s:=by
   have h:=of_decide_eq_false hc
   omega
  subst hi
  conv=>whnf
  refine W_loop (pol:=polL) Γok (Nat × PH) (fun k=>k.1≤i∧HalfM k.2 b0 i i bs (movedM t i k.1)) (fun k=>i - k.1) (fun k=>[(5,.v (.int .i64 k.1))]) (fun _=>[]) (fun _=>H) (fun k=>k.2) ⟨(0,O'),⟨by simp,g⟩,rfl,rfl,?_⟩ ?_
  ·conv=>whnf
   repeat (refine⟨rfl,?_⟩;conv=>whnf)
   exact trivial
  ·rintro ⟨k,O2⟩ ⟨k1,gk⟩
   dsimp only at k1 gk
   conv=>whnf
   refine if_intro (fun hc=>?_) (fun hc=>?_)
   ·have hk:k < i:=by simpa using hc
    obtain⟨b,off,rfl,hx⟩:=IntsH.at hv (show k < to.length by omega)
    obtain⟨t1,t2⟩:=ht k hk
    have t1':to[k]'(by omega)=(t k:Int):=by
     rw[List.getElem?_eq_getElem (by omega)] at t1
     exact Option.some.inj t1
    have htl:t k < (movedM t i k).length:=by rw[movedM_len];exact t2
    obtain⟨b',hb',hne,hl,hOb,hrd⟩:=gk.at htl H
    have hkl:k < (movedM t i k)[t k].length:=by rw[hl];exact hk
    have g3:=gk.setA 1 hb' htl hkl
    obtain⟨y1,y2,y3,y4⟩:=movedM_low t i k _ (List.getElem_mem htl) _ (List.getElem_mem hkl)
    rw[y1,y2,y3,y4] at g3
    conv=>whnf
    refine dec_intro (by omega) ?_
    conv=>whnf
    refine⟨[.int .i64 (t k)],by have:=hx H O2 (Sub.refl _);rw[t1'] at this;exact this,?_⟩
    conv=>whnf
    refine dec_intro (by omega) ?_
    conv=>whnf
    refine⟨[.slice (some ⟨b',0,none⟩) i i],hrd,?_⟩
    conv=>whnf
    refine dec_intro (by omega) ?_
    conv=>whnf
    refine⟨_,_,hOb,?_,?_⟩
    ·show _≤(cellsN _).length
     rw[cellsN_length,hl]
     simp only[Int.toNat_natCast,List.length_cons,List.length_nil]
     omega
    conv=>whnf
    refine⟨(k+1,_),⟨hk,g3⟩,by dsimp only;omega,?_⟩
    refine⟨rfl,rfl,?_⟩
    conv=>whnf
    repeat (refine⟨rfl,?_⟩;conv=>whnf)
    refine⟨by show En.v (.int .i64 (IntKind.i64.wrap (k+1)))=_;rw[wrap_id (by omega) (by omega)];rfl,?_⟩
    conv=>whnf
    repeat (refine⟨rfl,?_⟩;conv=>whnf)
    exact trivial
   ·have hk:k=i:=by
     have h:=of_decide_eq_false hc
     omega
    subst hk
    conv=>whnf
    exact .inr ⟨k,k,by omega,by omega,gk.own (movedM_len _ _ _)⟩
def only (O : PH) (b:Nat):PH:=fun n=>if n=b then O n else none
theorem only_ne (O : PH) {b n:Nat} (h:n ≠ b):only O b n=none:=by simp[only,h]
theorem only_same (O : PH) (b:Nat):only O b b=O b:=by simp[only]
theorem parts_only (O : PH) (b:Nat):Parts O (only O b) (del O b):=by
 refine⟨fun n=>?_,fun n=>?_⟩
 ·unfold un only del
  by_cases h:n=b
  ·simp[h]
   cases O b<;>rfl
  ·simp[h]
 ·unfold only del
  by_cases h:n=b
  ·exact .inr (by simp[h])
  ·exact .inl (by simp[h])
theorem un_only {O : PH} {b b':Nat} {x o:Obj} (h:b' ≠ b) (hb:O b=some o):un (only O b) (ins (del O b) b' x)=ins O b' x:=by
 funext n
 unfold un
 by_cases e:n=b
 ·subst e
  rw[only_same,hb]
  exact ((ins_ne _ _ (Ne.symm h)).trans hb).symm
 ·rw[only_ne O e]
  dsimp only
  by_cases e':n=b'
  ·subst e'
   rw[ins_same,ins_same]
  ·rw[ins_ne _ _ e',ins_ne _ _ e',del_ne _ e]
theorem noLoc {l : List (Option B)} {q:Nat} {b:B} (h:∀ x∈l,x=none) (hq:l[q]?=some (some b)):False:=by
 have:=h _ (List.mem_of_getElem? hq)
 cases this
theorem sub_un (H L : PH):Sub H (un H L):=fun n o hn=>by simp[un,hn]
theorem HalfM.lent {O : PH} {b0 h w:Nat} {bs:List Nat} {m:Mx} (g:HalfM O b0 h w bs m) {i:Nat} (hi:i < m.length) {H:PH} (hd:Dis H (only O b0)) :
 ∃ b,bs[i]?=some b∧b ≠ b0∧m[i].length=w∧O b=some (.cells ⟨cellsN m[i]⟩ 25 (0,0))∧del O b0 b=some (.cells ⟨cellsN m[i]⟩ 25 (0,0)) ∧
  ∀ H' R',Sub (un H (only O b0)) H'→Rd H' R' ⟨b0,0+i*1,none⟩ 1 [.slice (some ⟨b,0,none⟩) w w]:=by
 obtain⟨b,q1,q2,q3,q4,_⟩:=g.at hi H
 have hib:i < bs.length:=by rw[g.rows.len];exact hi
 have hbi:bs[i]=b:=by rw[List.getElem?_eq_getElem hib] at q1;exact Option.some.inj q1
 refine⟨b,q1,q2,q3,q4,(del_ne _ q2).trans q4,fun H' R' hs=>⟨rfl,rfl,_,_,_,.inl (hs _ _ (un_right hd ((only_same O b0).trans g.list))),?_⟩⟩
 dsimp only
 rw[Nat.zero_add,Nat.mul_one,List.drop_append_of_le_length (by simpa using Nat.le_of_lt hib),List.drop_eq_getElem_cons (by simpa using hib)]
 simp[rowV,hbi]
theorem c69 (ps : List Int) (f:Nat→Nat) (hn:ps.length < 1000) (ht:∀ k,k < ps.length→ps[k]?=some (f k:Int)∧f k < 8) (H:PH) (v:Value) (hv:IntsH H v ps) :
 Cl Tryz.prog 185 [v] H emp fun r _ M'=>OwnQ M' r (diagR (fun p=>OmegaF (f p)) ps.length ps.length):=by
 obtain⟨base,cap,rfl,_⟩:=id hv
 refine Cl_of (pol:=polL) Γok Tryz.func185 (by kernel_rfl) rfl ?_
 conv=>whnf
 refine dec_intro (Int.le_refl _) ?_
 conv=>whnf
 refine dec_intro (by omega) ?_
 conv=>whnf
 refine dec_intro (by omega) ?_
 conv=>whnf
 intro b0 hb0 _
 conv=>whnf
 obtain⟨s,hs⟩:∃ s,s=ps.length:=⟨_,rfl⟩
 rw[← hs] at hn ht ⊢
 refine W_loop (pol:=polL) Γok (Nat × List Nat × PH × PH) (fun i=>i.1≤s∧Sub H i.2.2.1∧HalfM i.2.2.2 b0 s s i.2.1 (diagR (fun p=>OmegaF (f p)) s i.1)) (fun i=>s - i.1) (fun i=>[(4,.v (.int .i64 i.1))]) (fun _=>[]) (fun i=>i.2.2.1) (fun i=>i.2.2.2) ⟨(0,[],H,_),⟨by simp,Sub.refl _,HalfM.start b0 s s emp⟩,rfl,rfl,?_⟩ ?_
 ·conv=>whnf
  repeat (refine⟨rfl,?_⟩;conv=>whnf)
  exact trivial
 ·rintro ⟨i,bs,H1,O'⟩ ⟨h1,s1,g⟩
  dsimp only at h1 s1 g
  conv=>whnf
  refine if_intro (fun hc=>?_) (fun hc=>?_)
  ·have hi:i < s:=by simpa using hc
   have hbl:i=bs.length:=by rw[g.rows.len,diagR_len]
   obtain⟨b',off',rfl,hx⟩:=IntsH.at hv (show i < ps.length by omega)
   obtain⟨t1,t2⟩:=ht i hi
   have t1':ps[i]'(by omega)=(f i:Int):=by
    rw[List.getElem?_eq_getElem (by omega)] at t1
    exact Option.some.inj t1
   conv=>whnf
   refine dec_intro (Int.le_refl _) ?_
   conv=>whnf
   refine dec_intro (by omega) ?_
   conv=>whnf
   refine dec_intro (by omega) ?_
   conv=>whnf
   intro b hb hO
   conv=>whnf
   refine dec_intro (by omega) ?_
   conv=>whnf
   obtain⟨cs,q1,q2,g2⟩:=g.row hbl hi hO
   refine⟨cs,_,q1,q2,?_⟩
   conv=>whnf
   have hml:i=(diagR (fun p=>OmegaF (f p)) s i).length:=(diagR_len _ _ _).symm
   have him:i < (diagR (fun p=>OmegaF (f p)) s i++[zeros s]).length:=by rw[List.length_append,diagR_len];simp
   refine W_lend (parts_only _ b0) fun hd=>?_
   obtain⟨b2,hb2,hne,hl,hOb,hOb',hrd⟩:=g2.lent him hd
   have hk:i < ((diagR (fun p=>OmegaF (f p)) s i++[zeros s])[i]).length:=by rw[hl];exact hi
   have g3:=g2.setN (OmegaF (f i)) hb2 him hk
   rw[setM_last _ _ hml,← diagR_succ (fun p=>OmegaF (f p))] at g3
   refine W_draw (pol:=polL) Γok mixes [(0,.pend),(1,.pend),(2,.pend),(3,.pend),(4,.pend),(5,.pendO),(6,.pendO),(7,.pendO),(8,.pendO),(9,.lock),(10,.pendO),(11,.lock)] 32 (by kernel_rfl) rfl ?_
   conv=>whnf
   refine dec_intro (by omega) ?_
   conv=>whnf
   refine⟨_,hrd _ _ (Sub.refl _),?_⟩
   conv=>whnf
   refine dec_intro (by omega) ?_
   conv=>whnf
   refine⟨[.int .i64 (f i)],by rw[← t1'];exact hx _ _ (s1.trans (sub_un _ _)),?_⟩
   conv=>whnf
   refine (c99 (f i) t2 _).val fun H2 hs2=>?_
   conv=>whnf
   refine dec_intro (by omega) ?_
   conv=>whnf
   refine⟨_,_,hOb',?_,?_⟩
   ·show _≤(cellsN _).length
    rw[cellsN_length,hl]
    simp only[Int.toNat_natCast,List.length_cons,List.length_nil]
    omega
   conv=>whnf
   refine⟨fun n o hn=>hs2 n o (un_right hd hn),fun q b3 hq hp=>?_,fun H3 e1 e2=>?_⟩
   ·exact (noLoc (by simp) hq).elim
   conv=>whnf
   have s3:Sub H H3:=fun n o hn=>by
    have h1:=s1 n o hn
    have h2:=(hd n).resolve_left (by dsimp only;rw[h1];simp)
    exact (e1 n h2).trans (hs2 n o (sub_un _ _ n o h1))
   rw[← un_only hne g2.list] at g3
   refine⟨(i+1,bs++[b],H3,_),⟨hi,s3,g3⟩,by dsimp only;omega,?_⟩
   refine⟨rfl,rfl,?_⟩
   conv=>whnf
   repeat (refine⟨rfl,?_⟩;conv=>whnf)
   refine⟨by show En.v (.int .i64 (IntKind.i64.wrap (i+1)))=_;rw[wrap_id (by omega) (by omega)];rfl,?_⟩
   conv=>whnf
   repeat (refine⟨rfl,?_⟩;conv=>whnf)
   exact trivial
  ·have hi:i=s:=by
    have h:=of_decide_eq_false hc
    omega
   subst hi
   conv=>whnf
   exact .inr ⟨i,i,by omega,by omega,g.own (diagR_len _ _ _)⟩
def takenF (ws : List Int) (a:Int):Nat→Int × Int
 | 0=>(0,a)
 | j+1=>if andI (takenF ws a j).2 (shlI 1 (ws.getD j 0)) ≠ 0 then (IntKind.i64.wrap ((takenF ws a j).1+shlI 1 j),IntKind.i64.wrap ((takenF ws a j).2 - shlI 1 (ws.getD j 0))) else takenF ws a j
theorem neq_true {x : Int} (h:(!(x == 0))=true):x ≠ 0:=by simpa using h
theorem neq_false {x : Int} (h:(!(x == 0))=false):x=0:=by simpa using h
theorem c71 (ws : List Int) (hlen:ws.length < 1000000) (hw:∀ w∈ws,0≤w) (a:Int) (H:PH) (v:Value) (hv:IntsH H v ws) :
 Cl Tryz.prog 186 [.int .i64 a,v] H emp fun r _ _=>r=.tuple #[.int .i64 (takenF ws a ws.length).1,.int .i64 (takenF ws a ws.length).2]:=by
 obtain⟨base,cap,rfl,_⟩:=id hv
 refine Cl_of (pol:=polL) Γok Tryz.func186 (by kernel_rfl) rfl ?_
 conv=>whnf
 refine W_loop (pol:=polL) Γok (Nat × PH) (fun i=>i.1≤ws.length∧Sub H i.2) (fun i=>ws.length - i.1) (fun i=>[(0,.v (.int .i64 (takenF ws a i.1).2)),(6,.v (.int .i64 (takenF ws a i.1).1)),(7,.v (.int .i64 i.1))]) (fun _=>[]) (fun i=>i.2) (fun _=>emp) ⟨(0,H),⟨by simp,Sub.refl _⟩,rfl,rfl,?_⟩ ?_
 ·conv=>whnf
  repeat (refine⟨rfl,?_⟩;conv=>whnf)
  exact trivial
 ·rintro ⟨i,H'⟩ ⟨h1,h2⟩
  dsimp only at h1 h2
  conv=>whnf
  refine if_intro (fun hc=>?_) (fun hc=>?_)
  ·have hi:i < ws.length:=by simpa using hc
   obtain⟨b,off,rfl,hx⟩:=IntsH.at hv hi
   have hwi:=hw ws[i] (List.getElem_mem hi)
   have hg:ws.getD i 0=ws[i]:=by simp[List.getD_eq_getElem?_getD,hi]
   have st:takenF ws a (i+1)=if andI (takenF ws a i).2 (shlI 1 ws[i]) ≠ 0 then (IntKind.i64.wrap ((takenF ws a i).1+shlI 1 i),IntKind.i64.wrap ((takenF ws a i).2 - shlI 1 ws[i])) else takenF ws a i:=by rw[← hg];rfl
   conv=>whnf
   refine dec_intro (by omega) ?_
   conv=>whnf
   refine⟨_,hx _ _ h2,?_⟩
   conv=>whnf
   refine dec_intro hwi ?_
   conv=>whnf
   refine if_intro (fun hq=>?_) (fun hq=>?_)
   ·have hq:andI (takenF ws a i).2 (shlI 1 ws[i]) ≠ 0:=neq_true hq
    rw[if_pos hq] at st
    conv=>whnf
    refine dec_intro (by omega) ?_
    conv=>whnf
    refine⟨_,hx _ _ h2,?_⟩
    conv=>whnf
    refine dec_intro hwi ?_
    conv=>whnf
    refine⟨(i+1,H'),⟨hi,h2⟩,by dsimp only;omega,?_⟩
    refine⟨rfl,rfl,?_⟩
    conv=>whnf
    refine⟨by dsimp only;rw[st]<;>rfl,?_⟩
    conv=>whnf
    repeat (refine⟨rfl,?_⟩;conv=>whnf)
    refine⟨by dsimp only;rw[st]<;>rfl,?_⟩
    conv=>whnf
    refine⟨by show En.v (.int .i64 (IntKind.i64.wrap (i+1)))=_;rw[wrap_id (by omega) (by omega)];rfl,?_⟩
    conv=>whnf
    repeat (refine⟨rfl,?_⟩;conv=>whnf)
    exact trivial
   ·have hq:andI (takenF ws a i).2 (shlI 1 ws[i])=0:=neq_false hq
    rw[if_neg (fun h=>h hq)] at st
    conv=>whnf
    refine⟨(i+1,H'),⟨hi,h2⟩,by dsimp only;omega,?_⟩
    refine⟨rfl,rfl,?_⟩
    conv=>whnf
    refine⟨by dsimp only;rw[st]<;>rfl,?_⟩
    conv=>whnf
    repeat (refine⟨rfl,?_⟩;conv=>whnf)
    refine⟨by dsimp only;rw[st]<;>rfl,?_⟩
    conv=>whnf
    refine⟨by show En.v (.int .i64 (IntKind.i64.wrap (i+1)))=_;rw[wrap_id (by omega) (by omega)];rfl,?_⟩
    conv=>whnf
    repeat (refine⟨rfl,?_⟩;conv=>whnf)
    exact trivial
  ·have hi:i=ws.length:=by
    have h:=of_decide_eq_false hc
    omega
   subst hi
   conv=>whnf
def clB (k w : Nat):Nat:=if k.testBit w then k - 2 ^ w else k
theorem clB_lt : ∀ k,k < 64→∀ w,w < 6→clB k w < 64:=by decide +kernel
theorem clB_bit : ∀ k,k < 64→∀ w,w < 6→∀ p,p < 6→p ≠ w→(clB k w).testBit p=k.testBit p:=by decide +kernel
theorem clB_comm : ∀ k,k < 64→∀ w,w < 6→∀ p,p < 6→clB (clB k w) p=clB (clB k p) w:=by decide +kernel
theorem clB_not : ∀ k:Nat,k < 64→∀ w:Nat,w < 6→andNotI (k:Int) (shlI 1 (w:Int))=(clB k w:Int):=by decide +kernel
theorem bit_shr : ∀ k:Nat,k < 64→∀ w:Nat,w < 6→andI (shrI (k:Int) (w:Int)) 1=if k.testBit w then 1 else 0:=by decide +kernel
theorem bit_and : ∀ k:Nat,k < 64→∀ w:Nat,w < 6→(andI (k:Int) (shlI 1 (w:Int))=0 ↔ k.testBit w=false):=by decide +kernel
theorem sub_bit : ∀ k:Nat,k < 64→∀ w:Nat,w < 6→k.testBit w=true→IntKind.i64.wrap ((k:Int) - shlI 1 (w:Int))=(clB k w:Int):=by decide +kernel
theorem add_bit : ∀ j:Nat,j < 6→∀ v:Nat,v < 2 ^ j→IntKind.i64.wrap ((v:Int)+shlI 1 (j:Int))=((v+2 ^ j:Nat):Int):=by decide +kernel
theorem or_bit : ∀ j:Nat,j < 6→∀ v:Nat,v < 2 ^ j→orI (v:Int) (shlI 1 (j:Int))=((v+2 ^ j:Nat):Int):=by decide +kernel
theorem or_no : ∀ j:Nat,j < 6→∀ v:Nat,v < 2 ^ j→orI (v:Int) (shlI 0 (j:Int))=(v:Int):=by decide +kernel
def spl (wn : Nat→Nat):Nat→Nat→Nat × Nat
 | 0,k=>(0,k)
 | j+1,k=>((spl wn j (clB k (wn j))).1+(if k.testBit (wn j) then 2 ^ j else 0),(spl wn j (clB k (wn j))).2)
theorem spl_lt (wn : Nat→Nat) (hw:∀ j,wn j < 6):∀ j k,k < 64→(spl wn j k).1 < 2 ^ j∧(spl wn j k).2 < 64
 | 0,k,h=>⟨by simp[spl],h⟩
 | j+1,k,h=>by
  obtain⟨h1,h2⟩:=spl_lt wn hw j _ (clB_lt k h (wn j) (hw j))
  refine⟨?_,h2⟩
  simp only[spl,Nat.pow_succ]
  split<;>omega
theorem spl_bit (wn : Nat→Nat) (hw:∀ j,wn j < 6) {p:Nat} (hp:p < 6):∀ j k,k < 64→(∀ i,i < j→wn i ≠ p)→(spl wn j k).2.testBit p=k.testBit p
 | 0,k,_,_=>rfl
 | j+1,k,h,hn=>by
  have ih:=spl_bit wn hw hp j _ (clB_lt k h (wn j) (hw j)) fun i hi=>hn i (by omega)
  simp only[spl]
  rw[ih,clB_bit k h _ (hw j) p hp (hn j (by omega)).symm]
theorem spl_cl (wn : Nat→Nat) (hw:∀ j,wn j < 6) {p:Nat} (hp:p < 6):∀ j k,k < 64→(∀ i,i < j→wn i ≠ p)→spl wn j (clB k p)=((spl wn j k).1,clB (spl wn j k).2 p)
 | 0,k,_,_=>rfl
 | j+1,k,h,hn=>by
  have ih:=spl_cl wn hw hp j _ (clB_lt k h (wn j) (hw j)) fun i hi=>hn i (by omega)
  simp only[spl]
  rw[clB_comm k h p hp _ (hw j),ih,clB_bit k h p hp _ (hw j) (hn j (by omega))]
theorem spl_succ (wn : Nat→Nat) (hw:∀ j,wn j < 6) (j k:Nat) (h:k < 64) (hn:∀ i,i < j→wn i ≠ wn j):spl wn (j+1) k=((spl wn j k).1+(if (spl wn j k).2.testBit (wn j) then 2 ^ j else 0),clB (spl wn j k).2 (wn j)):=by
 rw[spl_bit wn hw (hw j) j k h hn]
 show ((spl wn j (clB k (wn j))).1+(if k.testBit (wn j) then 2 ^ j else 0),(spl wn j (clB k (wn j))).2)=_
 rw[spl_cl wn hw (hw j) j k h hn]
theorem split_spl (ws : List Int) (wn:Nat→Nat) (hw:∀ j,wn j < 6):∀ (j k:Nat),j≤6→k < 64→(∀ i,i < j→ws.getD i 0=wn i)→splitF ws j (k:Int)=(((spl wn j k).1:Int),((spl wn j k).2:Int))
 | 0,k,_,_,_=>rfl
 | j+1,k,hj,h,he=>by
  have ih:=split_spl ws wn hw j (clB k (wn j)) (by omega) (clB_lt k h _ (hw j)) fun i hi=>he i (by omega)
  obtain⟨l1,_⟩:=spl_lt wn hw j _ (clB_lt k h _ (hw j))
  simp only[splitF,spl]
  rw[he j (by omega),clB_not k h _ (hw j),ih,bit_shr k h _ (hw j)]
  dsimp only
  congr 1
  cases k.testBit (wn j) with
  | true=>exact or_bit j (by omega) _ l1
  | false=>exact or_no j (by omega) _ l1
theorem taken_spl (ws : List Int) (wn:Nat→Nat) (hw:∀ j,wn j < 6) (k:Nat) (h:k < 64):∀ j,j≤6→(∀ i,i < j→ws.getD i 0=wn i)→(∀ a b,a < b→b < j→wn a ≠ wn b)→takenF ws k j=(((spl wn j k).1:Int),((spl wn j k).2:Int))
 | 0,_,_,_=>rfl
 | j+1,hj,he,hd=>by
  have ih:=taken_spl ws wn hw k h j (by omega) (fun i hi=>he i (by omega)) fun a b h1 h2=>hd a b h1 (by omega)
  obtain⟨l1,l2⟩:=spl_lt wn hw j k h
  rw[spl_succ wn hw j k h fun i hi=>hd i j hi (by omega)]
  simp only[takenF]
  rw[he j (by omega),ih]
  dsimp only
  cases e:(spl wn j k).2.testBit (wn j) with
  | true=>
   rw[if_pos (fun q=>by rw[(bit_and _ l2 _ (hw j)).1 q] at e;cases e),add_bit j (by omega) _ l1,sub_bit _ l2 _ (hw j) e]
   rfl
  | false=>
   rw[if_neg (fun q=>q ((bit_and _ l2 _ (hw j)).2 e))]
   simp[clB,e]
theorem taken_split (ws : List Int) (n:Int) (hn:n≤6) (h1:ws.all (inW n)=true) (h2:twiceF ws=false) (k:Nat) (hk:k < 64) (hl:ws.length≤6):takenF ws k ws.length=splitF ws ws.length k:=by
 have hin:∀ x∈ws,0≤x∧x < 6:=fun x hx=>by
  have:=List.all_eq_true.1 h1 x hx
  unfold inW at this
  simp at this
  omega
 have hg:∀ i,i < ws.length→∃ x,ws[i]?=some x∧ws.getD i 0=x∧0≤x∧x < 6:=fun i hi=>by
  have:=hin ws[i] (List.getElem_mem hi)
  exact⟨ws[i],List.getElem?_eq_getElem hi,by simp[List.getD_eq_getElem?_getD,hi],this⟩
 obtain⟨wn,hwn⟩:∃ wn:Nat→Nat,wn=fun j=>(ws.getD j 0).toNat:=⟨_,rfl⟩
 have hw:∀ j,wn j < 6:=fun j=>by
  rw[hwn]
  dsimp only
  by_cases hj:j < ws.length
  ·obtain⟨x,_,e,_,_⟩:=hg j hj
   rw[e];omega
  ·simp[List.getD_eq_getElem?_getD,List.getElem?_eq_none (Nat.le_of_not_lt hj)]
 have he:∀ i,i < ws.length→ws.getD i 0=(wn i:Int):=fun i hi=>by
  obtain⟨x,_,e,_,_⟩:=hg i hi
  rw[hwn]
  dsimp only
  rw[e];omega
 have hd:∀ a b,a < b→b < ws.length→wn a ≠ wn b:=fun a b hab hb e=>by
  unfold twiceF at h2
  rw[List.any_eq_false] at h2
  have:=h2 b (List.mem_range.2 hb)
  apply this
  rw[List.contains_iff_mem,he b hb,← e,← he a (by omega)]
  obtain⟨x,q1,q2,_⟩:=hg a (by omega)
  rw[q2]
  exact List.mem_take_iff_getElem.2 ⟨a,by omega,by rw[List.getElem?_eq_getElem (by omega)] at q1;exact Option.some.inj q1⟩
 rw[taken_spl ws wn hw k hk ws.length hl he hd,split_spl ws wn hw ws.length k hl hk he]
def halfR (F : Nat→Nat→(P4 × Int) × Int) (i w b:Nat):List (P4 × Int):=(List.range w).map fun q=>if q < b then (F i q).1 else (P4.zero,0)
theorem halfR_zero (F : Nat→Nat→(P4 × Int) × Int) (i w:Nat):halfR F i w 0=zeros w:=by
 apply List.ext_getElem<;>simp[halfR,zeros]
theorem halfR_full (F : Nat→Nat→(P4 × Int) × Int) (i w:Nat):gridM F (i+1) w=gridM F i w++[halfR F i w w]:=by
 unfold gridM
 rw[List.range_succ,List.map_append]
 congr 1
 rw[List.map_cons,List.map_nil]
 congr 1
 unfold halfR
 refine List.map_congr_left fun q hq=>?_
 rw[if_pos (List.mem_range.1 hq)]
theorem halfR_set (F : Nat→Nat→(P4 × Int) × Int) (i w b:Nat) (x:P4 × Int) (hx:(F i b).1=x):(halfR F i w b).set b x=halfR F i w (b+1):=by
 apply List.ext_getElem
 ·simp[halfR]
 intro q h1 h2
 rw[List.getElem_set]
 simp only[halfR,List.getElem_map,List.getElem_range]
 split
 ·rename_i e
  subst e
  rw[if_pos (by omega),hx]
 ·by_cases h:q < b
  ·rw[if_pos h,if_pos (by omega)]
  ·rw[if_neg h,if_neg (by omega)]
theorem halfR_skip (F : Nat→Nat→(P4 × Int) × Int) (i w b:Nat) (hx:(F i b).1=(P4.zero,0)):halfR F i w (b+1)=halfR F i w b:=by
 apply List.map_congr_left
 intro q hq
 by_cases h:q < b
 ·rw[if_pos h,if_pos (by omega)]
 ·rw[if_neg h]
  split
  ·have:q=b:=by omega
   rw[this,hx]
  ·rfl
theorem gridM_len (F : Nat→Nat→(P4 × Int) × Int) (h w:Nat):(gridM F h w).length=h:=(gridM_shape F h w).1
theorem c19 (m : Mx) (hlm:m.length < 1000000) (ws:List Int) (hws:ws.length < 100000) (n:Int) (H:PH) (u v:Value) (hu:MatH H u m) (hv:IntsH H v ws) :
 Cl Tryz.prog 148 [u,v,.int .i64 n] H emp fun r _ M'=>OutO M' r (resM (onErr m ws n) (onAt m ws) (2 ^ n.toNat) (2 ^ n.toNat)):=by
 obtain⟨base,cap,rfl⟩:=hu.sl
 obtain⟨wb,wc,rfl,_⟩:=id hv
 refine Cl_of (pol:=polL) Γok Tryz.func148 (by kernel_rfl) rfl ?_
 conv=>whnf
 refine (c30 m _ _ hu).val fun H1 s1=>?_
 have bad:∀ e,onErr m ws n=e→e ≠ 0→OutO emp (.tuple #[.slice none 0 0,.int .i64 e]) (resM (onErr m ws n) (onAt m ws) (2 ^ n.toNat) (2 ^ n.toNat)):=fun e he h=>by
  rw[he,resM_bad h]
  exact .bad
 conv=>whnf
 refine if_intro (fun he=>?_) (fun he=>?_)
 ·conv=>whnf
  have he:checkMR m ≠ 0:=by simpa using he
  refine bad _ ?_ he
  unfold onErr;rw[checkMF_checkMR,if_pos he]
 have he:checkMR m=0:=by simpa using he
 have hf:checkMF m=0:=by rw[checkMF_checkMR,he]
 have rm:=right_of hf
 conv=>whnf
 have err3:(decide (n < 0) || decide (n > 6))=true→onErr m ws n=3:=fun h=>by
  unfold onErr;rw[if_neg (by simpa using hf),if_pos h]
 refine if_intro (fun h1=>?_) (fun h1=>?_)
 ·conv=>whnf
  exact bad _ (err3 (by rw[h1];rfl)) (by decide)
 conv=>whnf
 refine if_intro (fun h2=>?_) (fun h2=>?_)
 ·conv=>whnf
  exact bad _ (err3 (by rw[h2,Bool.or_true])) (by decide)
 have h12:(decide (n < 0) || decide (n > 6))=false:=by rw[h1,h2];rfl
 conv=>whnf
 refine (c70 ws n (by omega) _ _ (IntsH.up hv s1)).val fun H2 s2=>?_
 conv=>whnf
 have epl:placesR ws n ≠ 0→onErr m ws n=placesR ws n:=fun h=>by
  unfold onErr
  rw[if_neg (by simpa using hf),if_neg (by rw[h12];simp)]
  unfold placesR at h ⊢
  split
  ·rfl
  ·rename_i h3
   rw[if_neg h3] at h
   split
   ·rfl
   ·rename_i h4
    rw[if_neg h4] at h
    exact absurd rfl h
 refine if_intro (fun h3=>?_) (fun h3=>?_)
 ·have h3:placesR ws n ≠ 0:=by simpa using h3
  conv=>whnf
  exact bad _ (epl h3) h3
 have h3:placesR ws n=0:=by simpa using h3
 have hall:ws.all (inW n)=true:=by
  cases e:ws.all (inW n) with
  | true=>rfl
  | false=>unfold placesR at h3;rw[if_pos e] at h3;cases h3
 have htw:twiceF ws=false:=by
  cases e:twiceF ws with
  | false=>rfl
  | true=>unfold placesR at h3;rw[if_neg (by rw[hall];simp),if_pos e] at h3;cases h3
 have err7:((m.length:Int) == (wideM m:Int))=false∨(m.length:Int) ≠ shlI 1 ws.length→onErr m ws n=7:=fun h=>by
  unfold onErr
  rw[if_neg (by simpa using hf),if_neg (by rw[h12];simp),if_neg (by rw[hall];simp),if_neg (by rw[htw];simp),if_pos h]
 conv=>whnf
 refine if_intro (fun h4=>?_) (fun h4=>?_)
 ·have h4:(m.length:Int) ≠ shlI 1 ws.length:=by simpa[shlI] using h4
  conv=>whnf
  exact bad _ (err7 (.inr h4)) (by decide)
 have h4:(m.length:Int)=shlI 1 ws.length:=by simpa[shlI] using h4
 obtain⟨hL,hM⟩:=shl_len h4 rm.pos rm.le
 obtain⟨b0,off0,rb,rc,rfl,hrd0,hn0⟩:=hu.at rm.pos
 conv=>whnf
 refine dec_intro (by have:=rm.pos;omega) ?_
 conv=>whnf
 refine⟨_,hrd0 _ _ (s1.trans s2),?_⟩
 conv=>whnf
 rw[← wideM_get rm.pos]
 refine if_intro (fun h5=>?_) (fun h5=>?_)
 ·have h5:(wideM m:Int) ≠ m.length:=by simpa using h5
  conv=>whnf
  exact bad _ (err7 (.inl (by simpa using fun e=>h5 (by rw[e])))) (by decide)
 have h5:wideM m=m.length:=by
  have:(wideM m:Int)=m.length:=by simpa using h5
  omega
 have err0:onErr m ws n=0:=by
  unfold onErr
  rw[if_neg (by simpa using hf),if_neg (by rw[h12];simp),if_neg (by rw[hall];simp),if_neg (by rw[htw];simp),if_neg (by rw[h5,← h4];simp)]
 conv=>whnf
 have hn1:=of_decide_eq_false h1
 have hn2:=of_decide_eq_false h2
 obtain⟨n,rfl⟩:=nat_of (a:=n) (by omega)
 rw[show 2 ^ (n:Int).toNat=2 ^ n by rw[Int.toNat_natCast]]
 have p2:2 ^ n≤64:=by
  have:2 ^ n≤2 ^ 6:=Nat.pow_le_pow_right (by decide) (by omega)
  omega
 have hw0:∀ w∈ws,0≤w:=fun x hx=>by
  have:=List.all_eq_true.1 hall x hx
  unfold inW at this
  simp at this
  omega
 have hl6:ws.length≤6:=by
  rcases Nat.lt_or_ge 6 ws.length with h | h
  ·have:2 ^ 7≤2 ^ ws.length:=Nat.pow_le_pow_right (by decide) h
   have:=rm.le
   omega
  ·exact h
 have bnd:∀ k:Nat,0≤(splitF ws ws.length k).1∧(splitF ws ws.length k).1 < m.length:=fun k=>by
  have:=splitF_bound ws ws.length k (by omega)
  rw[hM]
  simpa using this
 have tks:∀ k:Nat,k < 64→takenF ws k ws.length=splitF ws ws.length k:=fun k hk=>taken_split ws n (by omega) hall htw k hk hl6
 rw[resM_ok err0 (errs_zero fun i k hi hk=>by
  unfold onAt
  split
  ·rfl
  ·obtain⟨b1',b2'⟩:=bnd i
   obtain⟨b3',b4'⟩:=bnd k
   obtain⟨p,hp⟩:∃ p:Nat,(splitF ws ws.length i).1=p:=⟨(splitF ws ws.length i).1.toNat,by omega⟩
   obtain⟨q,hqq⟩:∃ q:Nat,(splitF ws ws.length k).1=q:=⟨(splitF ws ws.length k).1.toNat,by omega⟩
   have hpl:p < m.length:=by omega
   have hql:q < m[p].length:=by rw[rm.row _ (List.getElem_mem hpl),h5];omega
   have hck0:=(checkMR_zero he).2.2.2 _ (List.getElem_mem hpl) _ (List.getElem_mem hql)
   rw[hp,hqq,Int.toNat_natCast,Int.toNat_natCast,entry_get hpl hql,LeastF_eq (by rw[checkF_checkR];exact hck0)])]
 conv=>whnf
 rw[shl1 (by omega)]
 obtain⟨s,hs⟩:∃ s,s=2 ^ n:=⟨_,rfl⟩
 have shs:IntKind.i64.wrap (1*2 ^ (min (n:Int).toNat IntKind.i64.bits))=(s:Int):=by rw[shl1 (by omega),hs]
 rw[← hs] at p2 ⊢
 refine dec_intro (Int.le_refl _) ?_
 conv=>whnf
 refine dec_intro (by omega) ?_
 conv=>whnf
 refine dec_intro (by omega) ?_
 conv=>whnf
 intro b1 hb1 _
 conv=>whnf
 refine W_loop (pol:=polL) Γok (Nat × List Nat × PH × PH) (fun i=>i.1≤s∧Sub H2 i.2.2.1∧HalfM i.2.2.2 b1 s s i.2.1 (gridM (onAt m ws) i.1 s)) (fun i=>s - i.1) (fun i=>[(11,.v (.int .i64 i.1))]) (fun _=>[]) (fun i=>i.2.2.1) (fun i=>i.2.2.2) ⟨(0,[],H2,_),⟨by simp,Sub.refl _,HalfM.start b1 s s emp⟩,rfl,rfl,?_⟩ ?_
 ·conv=>whnf
  repeat (refine⟨rfl,?_⟩;conv=>whnf)
  exact trivial
 ·rintro ⟨i,bs,H3,O'⟩ ⟨k1,s3,g⟩
  dsimp only at k1 s3 g
  conv=>whnf
  rw[shs]
  refine if_intro (fun hc=>?_) (fun hc=>?_)
  ·have hi:i < s:=by simpa using hc
   have hbl:i=bs.length:=by rw[g.rows.len,gridM_len]
   conv=>whnf
   rw[shs]
   refine dec_intro (Int.le_refl _) ?_
   conv=>whnf
   refine dec_intro (by omega) ?_
   conv=>whnf
   refine dec_intro (by omega) ?_
   conv=>whnf
   intro b hb hO
   conv=>whnf
   refine dec_intro (by omega) ?_
   conv=>whnf
   obtain⟨cs,q1,q2,g2⟩:=g.row hbl hi hO
   refine⟨cs,_,q1,q2,?_⟩
   conv=>whnf
   have t3:Sub H H3:=s1.trans (s2.trans s3)
   refine (c71 ws (by omega) hw0 i _ _ (IntsH.up hv t3)).val fun H4 s4=>?_
   rw[tks i (by omega)]
   conv=>whnf
   have hml:i=(gridM (onAt m ws) i s).length:=(gridM_len _ _ _).symm
   rw[← halfR_zero (onAt m ws) i s] at g2
   refine W_loop (pol:=polL) Γok (Nat × PH × PH) (fun k=>k.1≤s∧Sub H4 k.2.1∧HalfM k.2.2 b1 s s (bs++[b]) (gridM (onAt m ws) i s++[halfR (onAt m ws) i s k.1])) (fun k=>s - k.1) (fun k=>[(14,.v (.int .i64 k.1))]) (fun _=>[]) (fun k=>k.2.1) (fun k=>k.2.2) ⟨(0,H4,_),⟨by simp,Sub.refl _,g2⟩,rfl,rfl,?_⟩ ?_
   ·conv=>whnf
    repeat (refine⟨rfl,?_⟩;conv=>whnf)
    exact trivial
   ·rintro ⟨k,H5,O2⟩ ⟨j1,s5,gk⟩
    dsimp only at j1 s5 gk
    conv=>whnf
    rw[shs]
    refine if_intro (fun hck=>?_) (fun hck=>?_)
    ·have hk:k < s:=by simpa using hck
     conv=>whnf
     have t5:Sub H H5:=t3.trans (s4.trans s5)
     refine (c71 ws (by omega) hw0 k _ _ (IntsH.up hv t5)).val fun H6 s6=>?_
     rw[tks k (by omega)]
     conv=>whnf
     refine if_intro (fun hq=>?_) (fun hq=>?_)
     ·have hq:(splitF ws ws.length i).2=(splitF ws ws.length k).2:=by simpa using hq
      obtain⟨b1',b2'⟩:=bnd i
      obtain⟨b3',b4'⟩:=bnd k
      obtain⟨p,hp⟩:∃ p:Nat,(splitF ws ws.length i).1=p:=⟨(splitF ws ws.length i).1.toNat,by omega⟩
      obtain⟨q,hqq⟩:∃ q:Nat,(splitF ws ws.length k).1=q:=⟨(splitF ws ws.length k).1.toNat,by omega⟩
      have hpl:p < m.length:=by omega
      have hql:q < m[p].length:=by rw[rm.row _ (List.getElem_mem hpl),h5];omega
      have hck0:=(checkMR_zero he).2.2.2 _ (List.getElem_mem hpl) _ (List.getElem_mem hql)
      have hF:(onAt m ws i k).1=formR m[p][q].1 m[p][q].2:=by
       unfold onAt
       rw[if_neg (by rw[hq];simp),hp,hqq,Int.toNat_natCast,Int.toNat_natCast,entry_get hpl hql,LeastF_eq (by rw[checkF_checkR];exact hck0)]
      obtain⟨c1,c2,_⟩:=checkR_zero hck0
      obtain⟨rb',ro',rb2,rc2,hbe,hrd,hnum⟩:=hu.at hpl
      cases hbe
      obtain⟨eb,eo,rfl,hx⟩:=hnum.at hql
      rw[hp,hqq]
      conv=>whnf
      have him:i < (gridM (onAt m ws) i s++[halfR (onAt m ws) i s k]).length:=by rw[List.length_append,gridM_len];simp
      refine W_lend (parts_only _ b1) fun hd=>?_
      obtain⟨bb,hbb,hne,hl,hOb,hOb',hrl⟩:=gk.lent him hd
      have hkl:k < ((gridM (onAt m ws) i s++[halfR (onAt m ws) i s k])[i]).length:=by rw[hl];exact hk
      have g3:=gk.setN (formR m[p][q].1 m[p][q].2) hbb him hkl
      rw[setM_last _ _ hml,halfR_set _ _ _ _ _ hF] at g3
      refine W_draw (pol:=polL) Γok mixes [(0,.pend),(1,.pend),(2,.pend),(3,.pend),(4,.pend),(5,.pendO),(6,.pendO),(7,.pendO),(8,.pendO),(9,.pendO),(10,.pendO),(11,.pendO),(12,.lock),(13,.pendO),(14,.lock)] 100 (by kernel_rfl) rfl ?_
      conv=>whnf
      refine dec_intro (by omega) ?_
      conv=>whnf
      refine⟨_,hrl _ _ (Sub.refl _),?_⟩
      conv=>whnf
      refine dec_intro (by omega) ?_
      conv=>whnf
      refine⟨_,hrd _ _ ((t5.trans s6).trans (sub_un _ _)),?_⟩
      conv=>whnf
      refine dec_intro (by omega) ?_
      conv=>whnf
      refine⟨_,hx _ _ ((t5.trans s6).trans (sub_un _ _)),?_⟩
      conv=>whnf
      refine (c72 m[p][q].1 m[p][q].2 (by omega) (by omega) _).val fun H7 s7=>?_
      conv=>whnf
      refine dec_intro (by omega) ?_
      conv=>whnf
      refine⟨_,_,hOb',?_,?_⟩
      ·show _≤(cellsN _).length
       rw[cellsN_length,hl]
       simp only[Int.toNat_natCast,List.length_cons,List.length_nil]
       omega
      conv=>whnf
      refine⟨fun n o hn=>s7 n o (un_right hd hn),fun q b3 hq hp=>(noLoc (by simp) hq).elim,fun H8 e1 e2=>?_⟩
      conv=>whnf
      have s8:Sub H4 H8:=fun n o hn=>by
       have h1:=s6 n o (s5 n o hn)
       have h2:=(hd n).resolve_left (by rw[h1];simp)
       exact (e1 n h2).trans (s7 n o (sub_un _ _ n o h1))
      rw[← un_only hne gk.list] at g3
      refine⟨(k+1,H8,_),⟨hk,s8,g3⟩,by dsimp only;omega,?_⟩
      refine⟨rfl,rfl,?_⟩
      conv=>whnf
      repeat (refine⟨rfl,?_⟩;conv=>whnf)
      refine⟨by show En.v (.int .i64 (IntKind.i64.wrap (k+1)))=_;rw[wrap_id (by omega) (by omega)];rfl,?_⟩
      conv=>whnf
      repeat (refine⟨rfl,?_⟩;conv=>whnf)
      exact trivial
     ·have hq:(splitF ws ws.length i).2 ≠ (splitF ws ws.length k).2:=by simpa using hq
      have hF:(onAt m ws i k).1=(P4.zero,0):=by
       unfold onAt
       rw[if_pos hq]
      conv=>whnf
      refine⟨(k+1,H6,O2),⟨hk,s5.trans s6,?_⟩,by dsimp only;omega,?_⟩
      ·dsimp only
       rw[halfR_skip _ _ _ _ hF]
       exact gk
      refine⟨rfl,rfl,?_⟩
      conv=>whnf
      repeat (refine⟨rfl,?_⟩;conv=>whnf)
      refine⟨by show En.v (.int .i64 (IntKind.i64.wrap (k+1)))=_;rw[wrap_id (by omega) (by omega)];rfl,?_⟩
      conv=>whnf
      repeat (refine⟨rfl,?_⟩;conv=>whnf)
      exact trivial
    ·have hk:k=s:=by
      have h:=of_decide_eq_false hck
      omega
     subst hk
     rw[← halfR_full] at gk
     conv=>whnf
     refine⟨(i+1,bs++[b],H5,O2),⟨hi,s3.trans (s4.trans s5),gk⟩,by dsimp only;omega,?_⟩
     refine⟨rfl,rfl,?_⟩
     conv=>whnf
     repeat (refine⟨rfl,?_⟩;conv=>whnf)
     refine⟨by show En.v (.int .i64 (IntKind.i64.wrap (i+1)))=_;rw[wrap_id (by omega) (by omega)];rfl,?_⟩
     conv=>whnf
     repeat (refine⟨rfl,?_⟩;conv=>whnf)
     exact trivial
  ·have hi:i=s:=by
    have h:=of_decide_eq_false hc
    omega
   subst hi
   conv=>whnf
   exact⟨_,rfl,.inr ⟨i,i,by omega,by omega,g.own (gridM_len _ _ _)⟩⟩
theorem OwnQ.pub {H M : PH} (hd:Dis H M) {u:Value} {x:Mx} (h:OwnQ M u x):∃ H' M',Repart H M H' M'∧MatH H' u x:=⟨_,_,.all hd,h.share hd⟩
theorem c68h (to : List Int) (k:Mx) (hn:to.length < 1000) (ht:∀ k,k < to.length→to[k]?=some (((to.getD k 0).toNat:Nat):Int)∧(to.getD k 0).toNat < to.length) (hk:movedM (fun k=>(to.getD k 0).toNat) to.length to.length=k) (H:PH) (v:Value) (hv:IntsH H v to) :
 Cl Tryz.prog 184 [v] H emp fun r H' _=>MatH H' r k:=
 (c68 to (fun k=>(to.getD k 0).toNat) hn ht H v hv).repart fun _ _ _ _ hd h=>by rw[hk] at h;exact h.pub hd
theorem c69h (ps : List Int) (k:Mx) (hn:ps.length < 1000) (ht:∀ k,k < ps.length→ps[k]?=some (((ps.getD k 0).toNat:Nat):Int)∧(ps.getD k 0).toNat < 8) (hk:diagR (fun p=>OmegaF ((ps.getD p 0).toNat:Nat)) ps.length ps.length=k) (H:PH) (v:Value) (hv:IntsH H v ps) :
 Cl Tryz.prog 185 [v] H emp fun r H' _=>MatH H' r k:=
 (c69 ps (fun k=>(ps.getD k 0).toNat) hn ht H v hv).repart fun _ _ _ _ hd h=>by rw[hk] at h;exact h.pub hd
def OfR (kind : Int):Mx × Int:=if 1≤kind∧kind≤12 then (opM kind.toNat,0) else ([],3)
theorem c18 (kind : Int) (H:PH):Cl Tryz.prog 147 [.int .i64 kind] H emp fun r H' _=>OutH H' r (OfR kind):=by
 refine Cl_of (pol:=fun _=>.imm) Γok Tryz.func147 (by kernel_rfl) rfl ?_
 conv=>whnf
 refine if_intro (fun h1=>?_) (fun h1=>?_)
 ·have h1:kind=1:=by simpa using h1
  subst h1
  conv=>whnf
  intro b hb _
  conv=>whnf
  refine (c68h [1,0] (opM 1) (by decide) (by decide) (by kernel_rfl) _ _ (ints_lit (ins_same _ _ _))).use fun r H1 s1 hr=>?_
  conv=>whnf
  obtain⟨_,hr⟩:=hr
  exact⟨r,rfl,hr⟩
 conv=>whnf
 refine if_intro (fun h2=>?_) (fun h2=>?_)
 ·have h2:kind=2:=by simpa using h2
  subst h2
  conv=>whnf
  intro b1 hb1 _
  conv=>whnf
  intro b2 hb2 _
  conv=>whnf
  intro b3 hb3 _
  conv=>whnf
  refine⟨_,rfl,?_⟩
  have s2:=sub_ins _ (.cells ⟨cellsOf (OmegaF 2)++cellsOf ((P4.zero,0):P4 × Int)⟩ 25 (0,0)) hb2
  have s3:=sub_ins _ (.cells ⟨[rowV b1 2,rowV b2 2]⟩ 22 (0,0)) hb3
  exact mat2 (ins_same _ _ _) (NumH.up (NumH.up (pair_num (ins_same _ _ _)) s2) s3) (NumH.up (pair_num (ins_same _ _ _)) s3)
 conv=>whnf
 refine if_intro (fun h3=>?_) (fun h3=>?_)
 ·have h3:kind=3:=by simpa using h3
  subst h3
  conv=>whnf
  intro b hb _
  conv=>whnf
  refine (c69h [0,4] (opM 3) (by decide) (by decide) (by kernel_rfl) _ _ (ints_lit (ins_same _ _ _))).use fun r H1 s1 hr=>?_
  conv=>whnf
  obtain⟨_,hr⟩:=hr
  exact⟨r,rfl,hr⟩
 conv=>whnf
 refine if_intro (fun h4=>?_) (fun h4=>?_)
 ·have h4:kind=4:=by simpa using h4
  subst h4
  conv=>whnf
  intro b1 hb1 _
  conv=>whnf
  intro b2 hb2 _
  conv=>whnf
  intro b3 hb3 _
  conv=>whnf
  refine⟨_,rfl,?_⟩
  have s2:=sub_ins _ (.cells ⟨cellsOf rootN++cellsOf minusN⟩ 25 (0,0)) hb2
  have s3:=sub_ins _ (.cells ⟨[rowV b1 2,rowV b2 2]⟩ 22 (0,0)) hb3
  exact mat2 (ins_same _ _ _) (NumH.up (NumH.up (pair_num (ins_same _ _ _)) s2) s3) (NumH.up (pair_num (ins_same _ _ _)) s3)
 conv=>whnf
 refine if_intro (fun h5=>?_) (fun h5=>?_)
 ·have h5:kind=5:=by simpa using h5
  subst h5
  conv=>whnf
  intro b hb _
  conv=>whnf
  refine (c69h [0,2] (opM 5) (by decide) (by decide) (by kernel_rfl) _ _ (ints_lit (ins_same _ _ _))).use fun r H1 s1 hr=>?_
  conv=>whnf
  obtain⟨_,hr⟩:=hr
  exact⟨r,rfl,hr⟩
 conv=>whnf
 refine if_intro (fun h6=>?_) (fun h6=>?_)
 ·have h6:kind=6:=by simpa using h6
  subst h6
  conv=>whnf
  intro b hb _
  conv=>whnf
  refine (c69h [0,6] (opM 6) (by decide) (by decide) (by kernel_rfl) _ _ (ints_lit (ins_same _ _ _))).use fun r H1 s1 hr=>?_
  conv=>whnf
  obtain⟨_,hr⟩:=hr
  exact⟨r,rfl,hr⟩
 conv=>whnf
 refine if_intro (fun h7=>?_) (fun h7=>?_)
 ·have h7:kind=7:=by simpa using h7
  subst h7
  conv=>whnf
  intro b hb _
  conv=>whnf
  refine (c69h [0,1] (opM 7) (by decide) (by decide) (by kernel_rfl) _ _ (ints_lit (ins_same _ _ _))).use fun r H1 s1 hr=>?_
  conv=>whnf
  obtain⟨_,hr⟩:=hr
  exact⟨r,rfl,hr⟩
 conv=>whnf
 refine if_intro (fun h8=>?_) (fun h8=>?_)
 ·have h8:kind=8:=by simpa using h8
  subst h8
  conv=>whnf
  intro b hb _
  conv=>whnf
  refine (c69h [0,7] (opM 8) (by decide) (by decide) (by kernel_rfl) _ _ (ints_lit (ins_same _ _ _))).use fun r H1 s1 hr=>?_
  conv=>whnf
  obtain⟨_,hr⟩:=hr
  exact⟨r,rfl,hr⟩
 conv=>whnf
 refine if_intro (fun h9=>?_) (fun h9=>?_)
 ·have h9:kind=9:=by simpa using h9
  subst h9
  conv=>whnf
  intro b hb _
  conv=>whnf
  refine (c68h [0,3,2,1] (opM 9) (by decide) (by decide) (by kernel_rfl) _ _ (ints_lit (ins_same _ _ _))).use fun r H1 s1 hr=>?_
  conv=>whnf
  obtain⟨_,hr⟩:=hr
  exact⟨r,rfl,hr⟩
 conv=>whnf
 refine if_intro (fun h10=>?_) (fun h10=>?_)
 ·have h10:kind=10:=by simpa using h10
  subst h10
  conv=>whnf
  intro b hb _
  conv=>whnf
  refine (c69h [0,0,0,4] (opM 10) (by decide) (by decide) (by kernel_rfl) _ _ (ints_lit (ins_same _ _ _))).use fun r H1 s1 hr=>?_
  conv=>whnf
  obtain⟨_,hr⟩:=hr
  exact⟨r,rfl,hr⟩
 conv=>whnf
 refine if_intro (fun h11=>?_) (fun h11=>?_)
 ·have h11:kind=11:=by simpa using h11
  subst h11
  conv=>whnf
  intro b hb _
  conv=>whnf
  refine (c68h [0,2,1,3] (opM 11) (by decide) (by decide) (by kernel_rfl) _ _ (ints_lit (ins_same _ _ _))).use fun r H1 s1 hr=>?_
  conv=>whnf
  obtain⟨_,hr⟩:=hr
  exact⟨r,rfl,hr⟩
 conv=>whnf
 refine if_intro (fun h12=>?_) (fun h12=>?_)
 ·have h12:kind=12:=by simpa using h12
  subst h12
  conv=>whnf
  intro b hb _
  conv=>whnf
  refine (c68h [0,1,2,7,4,5,6,3] (opM 12) (by decide) (by decide) (by kernel_rfl) _ _ (ints_lit (ins_same _ _ _))).use fun r H1 s1 hr=>?_
  conv=>whnf
  obtain⟨_,hr⟩:=hr
  exact⟨r,rfl,hr⟩
 conv=>whnf
 have e:OfR kind=([],3):=by
  unfold OfR
  rw[if_neg]
  rintro ⟨q1,q2⟩
  simp at h1 h2 h3 h4 h5 h6 h7 h8 h9 h10 h11 h12
  omega
 rw[e]
 exact⟨_,rfl,nilM _⟩
def newH (H0 H : PH):PH:=fun n=>match H0 n with
 | some _=>none
 | none=>H n
theorem newH_some {H0 H : PH} {n:Nat} {o:Obj} (h0:H0 n=none) (h:H n=some o):newH H0 H n=some o:=by simp[newH,h0,h]
theorem newH_up {H0 H H' : PH} (hs:Sub H H'):Sub (newH H0 H) (newH H0 H'):=fun n o hn=>by
 unfold newH at hn ⊢
 cases e:H0 n with
 | some _=>rw[e] at hn;cases hn
 | none=>rw[e] at hn;exact hs n o hn
theorem newH_base {H0 H1 H : PH} (hs:Sub H0 H1):Sub (newH H1 H) (newH H0 H):=fun n o hn=>by
 unfold newH at hn ⊢
 cases e:H1 n with
 | some _=>rw[e] at hn;cases hn
 | none=>
  rw[e] at hn
  cases e0:H0 n with
  | some o'=>rw[hs n o' e0] at e;cases e
  | none=>exact hn
def MatN (H0 H : PH) (v:Value) (m:Mx):Prop:=∃ h w,h < 1000000∧w < 1000000∧OwnM (newH H0 H) v h w m
theorem MatN.up {H0 H H' : PH} {v:Value} {m:Mx} (h:MatN H0 H v m) (hs:Sub H H'):MatN H0 H' v m:=by
 obtain⟨a,b,h1,h2,h3⟩:=h
 exact⟨a,b,h1,h2,h3.up (newH_up hs)⟩
theorem MatN.base {H0 H1 H : PH} {v:Value} {m:Mx} (h:MatN H1 H v m) (hs:Sub H0 H1):MatN H0 H v m:=by
 obtain⟨a,b,h1,h2,h3⟩:=h
 exact⟨a,b,h1,h2,h3.up (newH_base hs)⟩
def ListN (H0 H : PH) (v:Value) (bs:List Nat) (h w:Nat):Prop:=∃ b0,v=.slice (some ⟨b0,0,none⟩) h h∧H0 b0=none∧H b0=some (.cells ⟨bs.map fun b=>rowV b w⟩ 22 (0,0))
theorem ListN.up {H0 H H' : PH} {v:Value} {bs:List Nat} {h w:Nat} (k:ListN H0 H v bs h w) (hs:Sub H H'):ListN H0 H' v bs h w:=by
 obtain⟨b0,h1,h2,h3⟩:=k
 exact⟨b0,h1,h2,hs _ _ h3⟩
theorem RowsB.new {H0 H M : PH} (hs:Sub H0 H) (hd:Dis H M) {v:Value} {bs:List Nat} {h w:Nat} {m:Mx} (hh:h < 1000000) (hw:w < 1000000) (hm:RowsB H M v bs h w m) (hl:ListN H0 H v bs h w):MatN H0 (un H M) v m:=by
 obtain⟨b0,rfl,h2,h3⟩:=hl
 have hM:∀ b o,M b=some o→newH H0 (un H M) b=some o:=fun b o hb=>by
  have h1:H b=none:=(hd b).resolve_right (by rw[hb];simp)
  have h0:H0 b=none:=by
   cases e:H0 b with
   | none=>rfl
   | some o'=>rw[hs b o' e] at h1;cases h1
  exact newH_some h0 (un_right hd hb)
 refine⟨h,w,hh,hw,hm.len,hm.wid,bs,b0,⟨hm.rows.len,hm.rows.nodup,fun i b r h4 h5=>hM _ _ (hm.rows.cells i b r h4 h5)⟩,fun hb=>?_,rfl,newH_some h2 (by simp[un,h3])⟩
 obtain⟨i,hi,e⟩:=List.mem_iff_getElem.1 hb
 have:=hm.rows.cells i b0 (m[i]'(by rw[← hm.rows.len];exact hi)) (by rw[List.getElem?_eq_getElem hi,e]) (List.getElem?_eq_getElem _)
 rcases hd b0 with h | h
 ·rw[h3] at h;cases h
 ·rw[this] at h;cases h
theorem c73n (h w : Nat) (hh:h < 1000000) (hw:w < 1000000) (H:PH):Cl Tryz.prog 182 [.int .i64 h,.int .i64 w] H emp fun r H' M'=>∃ bs base cap,r=.slice base h cap∧RowsB H' M' r bs h w (List.replicate h (zeros w))∧ListN H H' r bs h w:=by
 refine (c73 h w hh hw H).repart fun r H' M' hs hd hq=>?_
 obtain⟨_,hq⟩:=hq
 obtain⟨bs,b0,rfl,hB⟩:=hq.ownB
 have hb0:H' b0=none:=(hd b0).resolve_right (by rw[hB.list];simp)
 refine⟨_,_,.one hd hB.list,bs,_,_,rfl,⟨hB.rows.of_sub fun b hb=>del_ne _ fun e=>by subst e;exact hB.nb hb,⟨_,_,rfl,.inr ⟨b0,0,_,_,_,rfl,ins_same _ _ _,?_⟩⟩,hB.len,hB.wid⟩,b0,rfl,?_,ins_same _ _ _⟩
 ·rw[List.drop_zero]
  exact List.take_length
 ·cases e:H b0 with
  | none=>rfl
  | some o=>rw[hs _ _ e] at hb0;cases hb0
theorem c133n (t : Nat→Nat) (n:Nat) (hn:n < 1000000) (ht:∀ k,k < n→t k < n) (H:PH) (fn:Fn) (first cp:Array Value) (hf:∀ k,k < n→Does Tryz.prog H (.func fn first cp) [.int .i64 k] fun r _=>r=.int .i64 (t k)) :
 Cl Tryz.prog 218 [.int .i64 n,.func fn first cp] H emp fun r H' M'=>∃ bs,RowsB H' M' r bs n n (movedM t n n)∧ListN H H' r bs n n:=by
 refine Cl_of (pol:=polL) Γok Tryz.func218 (by kernel_rfl) rfl ?_
 conv=>whnf
 refine (c73n n n hn hn H).mono fun r H1 M1 hs1 hq=>?_
 obtain⟨bs,base,cap,rfl,hB,hF⟩:=hq
 conv=>whnf
 refine W_loop (pol:=polL) Γok (Nat × PH × PH) (fun i=>i.1≤n∧Sub H1 i.2.1∧RowsB H1 i.2.2 (.slice base n cap) bs n n (movedM t n i.1)) (fun i=>n - i.1) (fun i=>[(11,.v (.int .i64 i.1))]) (fun _=>[]) (fun i=>i.2.1) (fun i=>i.2.2) ⟨(0,H1,M1),⟨by simp,Sub.refl _,hB⟩,rfl,rfl,?_⟩ ?_
 ·conv=>whnf
  repeat (refine⟨rfl,?_⟩;conv=>whnf)
  exact trivial
 ·rintro ⟨i,H',O⟩ ⟨h1,h2,h3⟩
  dsimp only at h1 h2 h3
  conv=>whnf
  refine if_intro (fun hg=>?_) (fun hg=>?_)
  ·have hi:i < n:=by simpa using hg
   conv=>whnf
   refine W_draw (pol:=polL) Γok mixes [(0,.pend),(1,.pendO),(2,.pendO),(6,.pend),(3,.lock),(4,.pend),(5,.pend),(7,.lock),(8,.pendO),(9,.lock)] 25 (by kernel_rfl) rfl ?_
   conv=>whnf
   refine (((hf i hi).up hs1).up h2).use fun r H2 hs2 hr=>?_
   subst hr
   conv=>whnf
   obtain⟨b0,off,b,r,rfl,hb,hr,hl,hO,hrd⟩:=(h3.up (h2.trans hs2)).row (ht i hi)
   have hti:=ht i hi
   conv=>whnf
   refine dec_intro (by omega) ?_
   conv=>whnf
   refine⟨_,hrd _,?_⟩
   conv=>whnf
   refine (c74 _).val fun H3 hs3=>?_
   conv=>whnf
   refine dec_intro (by omega) ?_
   conv=>whnf
   refine⟨_,_,hO,?_,?_⟩
   ·show _≤(cellsN r).length
    rw[cellsN_length,hl]
    simp only[Int.toNat_natCast,List.length_cons,List.length_nil]
    omega
   conv=>whnf
   refine⟨(i+1,H3,_),⟨hi,h2.trans (hs2.trans hs3),h3.set hb hr hi oneN⟩,by dsimp only;omega,?_⟩
   conv=>whnf
   refine⟨rfl,rfl,?_⟩
   conv=>whnf
   repeat (refine⟨rfl,?_⟩;conv=>whnf)
   refine⟨by show En.v (.int .i64 (IntKind.i64.wrap (i+1)))=_;rw[wrap_id (by omega) (by omega)];rfl,?_⟩
   conv=>whnf
   repeat (refine⟨rfl,?_⟩;conv=>whnf)
   exact trivial
  ·conv=>whnf
   have hi:i=n:=by simp at hg;omega
   subst hi
   exact⟨bs,h3.up h2,hF.up h2⟩
theorem c143n (l : List (P4 × Int)) (hn:l.length < 1000000) (H:PH) (v:Value) (hv:NumH H v l) :
 Cl Tryz.prog 220 [v] H emp fun r H' M'=>∃ bs,RowsB H' M' r bs l.length l.length (diagM l l.length)∧ListN H H' r bs l.length l.length:=by
 obtain⟨lb,lc,rfl,_⟩:=id hv
 refine Cl_of (pol:=polL) Γok Tryz.func220 (by kernel_rfl) rfl ?_
 conv=>whnf
 refine (c73n l.length l.length hn hn H).mono fun r H1 M1 hs1 hq=>?_
 obtain⟨bs,base,cap,rfl,hB,hF⟩:=hq
 conv=>whnf
 refine W_loop (pol:=polL) Γok (Nat × PH × PH) (fun i=>i.1≤l.length∧Sub H1 i.2.1∧RowsB H1 i.2.2 (.slice base l.length cap) bs l.length l.length (diagM l i.1)) (fun i=>l.length - i.1) (fun i=>[(13,.v (.int .i64 i.1))]) (fun _=>[]) (fun i=>i.2.1) (fun i=>i.2.2) ⟨(0,H1,M1),⟨by simp,Sub.refl _,hB⟩,rfl,rfl,?_⟩ ?_
 ·conv=>whnf
  repeat (refine⟨rfl,?_⟩;conv=>whnf)
  exact trivial
 ·rintro ⟨i,H',O⟩ ⟨h1,h2,h3⟩
  dsimp only at h1 h2 h3
  conv=>whnf
  refine if_intro (fun hg=>?_) (fun hg=>?_)
  ·have hi:i < l.length:=by simpa using hg
   obtain⟨_,lb0,loff,rfl,hlrd⟩:=((hv.up hs1).up h2).rd (O:=emp) hi
   conv=>whnf
   refine dec_intro (by omega) ?_
   conv=>whnf
   refine⟨_,hlrd.anyO,?_⟩
   conv=>whnf
   intro bx
   conv=>whnf
   refine W_draw (pol:=polL) Γok mixes [(0,.pendO),(1,.pendO),(2,.pendO),(3,.pendO),(4,.pendO),(5,.pendO),(6,.pendO),(7,.lock)] 27 (by kernel_rfl) rfl ?_
   obtain⟨b0,off,b,r,rfl,hb,hr,hl,hO,hrd⟩:=(h3.up h2).row hi
   conv=>whnf
   refine dec_intro (by omega) ?_
   conv=>whnf
   refine⟨_,hrd _,?_⟩
   conv=>whnf
   refine dec_intro (by omega) ?_
   conv=>whnf
   refine⟨_,_,hO,?_,?_⟩
   ·show _≤(cellsN r).length
    rw[cellsN_length,hl]
    simp only[Int.toNat_natCast,List.length_cons,List.length_nil]
    omega
   conv=>whnf
   refine⟨(i+1,H',_),⟨hi,h2,h3.set hb hr hi (l.getD i (P4.zero,0))⟩,by dsimp only;omega,?_⟩
   have hg:l.getD i (P4.zero,0)=l[i]:=by simp[List.getD_eq_getElem?_getD,hi]
   rw[hg]
   conv=>whnf
   refine⟨rfl,rfl,?_⟩
   conv=>whnf
   repeat (refine⟨rfl,?_⟩;conv=>whnf)
   refine⟨by show En.v (.int .i64 (IntKind.i64.wrap (i+1)))=_;rw[wrap_id (by omega) (by omega)];rfl,?_⟩
   conv=>whnf
   repeat (refine⟨rfl,?_⟩;conv=>whnf)
   exact trivial
  ·conv=>whnf
   have hi:i=l.length:=by simp at hg;omega
   subst hi
   exact⟨bs,h3.up h2,hF.up h2⟩
theorem c133m (t : Nat→Nat) (n:Nat) (hn:n < 1000000) (ht:∀ k,k < n→t k < n) (H:PH) (fn:Fn) (first cp:Array Value) (hf:∀ k,k < n→Does Tryz.prog H (.func fn first cp) [.int .i64 k] fun r _=>r=.int .i64 (t k)) :
 Cl Tryz.prog 218 [.int .i64 n,.func fn first cp] H emp fun r H' _=>MatN H H' r (movedM t n n):=
 (c133n t n hn ht H fn first cp hf).repart fun _ _ _ hs hd ⟨_,h,k⟩=>⟨_,_,.all hd,h.new hs hd hn hn k⟩
theorem c143m (l : List (P4 × Int)) (hn:l.length < 1000000) (H:PH) (v:Value) (hv:NumH H v l) :
 Cl Tryz.prog 220 [v] H emp fun r H' _=>MatN H H' r (diagM l l.length):=
 (c143n l hn H v hv).repart fun _ _ _ hs hd ⟨_,h,k⟩=>⟨_,_,.all hd,h.new hs hd hn hn k⟩
theorem OwnM.sub {M M' : PH} {v:Value} {h w:Nat} {m:Mx} (hm:OwnM M v h w m) (hs:∀ n o,M n=some o→M' n=some o):OwnM M' v h w m:=hm.up hs
theorem Cl.mine {f : FuncId} {args:List Value} {H:PH} {m:Mx} {Q:Value→Value→Prop} (h:Cl Tryz.prog f args H emp fun r H' _=>∃ u,Q r u∧MatN H H' u m):Cl Tryz.prog f args H emp fun r _ M'=>∃ u,Q r u∧OwnQ M' u m:=
 (Cl.own h).mono fun r H2 M2 _ hq=>by
  obtain⟨rfl,H',M',⟨u,q,a,b,h1,h2,h3⟩,_,_,_,h7⟩:=hq
  refine⟨u,q,.inr ⟨a,b,h1,h2,h3.up fun n o hn=>?_⟩⟩
  unfold newH at hn
  cases e:H2 n with
  | some _=>rw[e] at hn;cases hn
  | none=>rw[e] at hn;exact h7 n o e hn
theorem newH_sub (H0 H : PH):Sub (newH H0 H) H:=fun n o hn=>by
 unfold newH at hn
 cases e:H0 n with
 | some _=>rw[e] at hn;cases hn
 | none=>rw[e] at hn;exact hn
theorem MatN.mat {H0 H : PH} {v:Value} {m:Mx} (h:MatN H0 H v m):MatH H v m:=by
 obtain⟨a,b,h1,h2,h3⟩:=h
 have:=OwnM.share (H:=emp) (fun n=>.inl rfl) h3
 exact this.up fun n o hn=>by
  have:newH H0 H n=some o:=by simpa[un,emp] using hn
  exact newH_sub _ _ n o this
def NumN (H0 H : PH) (v:Value) (l:List (P4 × Int)):Prop:=∃ b,v=.slice (some ⟨b,0,none⟩) l.length l.length∧H0 b=none∧H b=some (.cells ⟨cellsN l⟩ 25 (0,0))
theorem NumN.up {H0 H H' : PH} {v:Value} {l:List (P4 × Int)} (k:NumN H0 H v l) (hs:Sub H H'):NumN H0 H' v l:=by
 obtain⟨b0,h1,h2,h3⟩:=k
 exact⟨b0,h1,h2,hs _ _ h3⟩
theorem fresh_of {H0 H : PH} (hS:Sub H0 H) {b:Nat} (hb:H b=none):H0 b=none:=by
 cases e:H0 b with
 | none=>rfl
 | some o=>rw[hS _ _ e] at hb;cases hb
theorem numN_new {H0 H : PH} (hS:Sub H0 H) {b:Nat} (hb:H b=none) {l:List (P4 × Int)} {c:List Value} (hc:c=cellsN l) {n:Nat} (hn:n=l.length):NumN H0 (ins H b (.cells ⟨c⟩ 25 (0,0))) (.slice (some ⟨b,0,none⟩) n n) l:=by
 subst hc hn
 exact⟨b,rfl,fresh_of hS hb,ins_same _ _ _⟩
theorem mat2N {H0 H : PH} (hS:Sub H0 H) {b:Nat} (hb:H b=none) {u1 u2:Value} {r1 r2:List (P4 × Int)} (h1:NumN H0 H u1 r1) (h2:NumN H0 H u2 r2) (l1:r1.length=2) (l2:r2.length=2) (hne:cellsN r1 ≠ cellsN r2) :
 MatN H0 (ins H b (.cells ⟨[u1,u2]⟩ 22 (0,0))) (.slice (some ⟨b,0,none⟩) 2 2) [r1,r2]:=by
 obtain⟨b1,rfl,f1,k1⟩:=h1
 obtain⟨b2,rfl,f2,k2⟩:=h2
 have n12:b1 ≠ b2:=fun e=>by
  subst e
  rw[k1] at k2
  injection k2 with k2
  injection k2 with k2
  injection k2 with k2
  exact hne k2
 have n1:b1 ≠ b:=fun e=>by subst e;rw[hb] at k1;cases k1
 have n2:b2 ≠ b:=fun e=>by subst e;rw[hb] at k2;cases k2
 rw[l1,l2]
 refine⟨2,2,by decide,by decide,rfl,fun i r hr=>?_,[b1,b2],b,⟨rfl,by simp[n12],fun i c r hc hr=>?_⟩,by simp[n1.symm,n2.symm],rfl,newH_some (fresh_of hS hb) (ins_same _ _ _)⟩
 ·match i,hr with
  | 0,hr=>cases hr;exact l1
  | 1,hr=>cases hr;exact l2
 ·match i,hc,hr with
  | 0,hc,hr=>cases hc;cases hr;exact newH_some f1 ((ins_ne _ _ n1).trans k1)
  | 1,hc,hr=>cases hc;cases hr;exact newH_some f2 ((ins_ne _ _ n2).trans k2)
def vInts (l : List Value):List Int:=l.map fun
 | .int _ n=>n
 | _=>0
def Sp.holdsN (H0 H : PH) (v:Value):Sp→Prop
 | .skip=>True
 | .val _=>True
 | .nums l=>NumN H0 H v l
 | .mat m=>MatN H0 H v m
theorem Sp.upN {H0 H H' : PH} {v:Value} {s:Sp} (hs:Sub H H') (h:s.holdsN H0 H v):s.holdsN H0 H' v:=by
 cases s with
 | skip=>exact trivial
 | val x=>exact trivial
 | nums l=>exact NumN.up h hs
 | mat m=>exact MatN.up h hs
def IOn (H0 : PH) (L:Nat→Bool) (V:Nat→Value) (H O:PH):Prop:=IO L V H O∧Sub H0 H∧∀ (i:Nat) s,spO[i]?=some s→L i=true→s.holdsN H0 H (V i)
theorem holdsN_set {H0 : PH} {L:Nat→Bool} {V:Nat→Value} {H H2:PH} {i:Nat} {v:Value} {s:Sp} (hI:∀ (i:Nat) s,spO[i]?=some s→L i=true→s.holdsN H0 H (V i)) (hs:Sub H H2) (hsp:spO[i]?=some s) (hv:s.holdsN H0 H2 v) :
 ∀ (j:Nat) s,spO[j]?=some s→setL L i j=true→s.holdsN H0 H2 (setV V i v j):=by
 intro j s' hj hL
 by_cases e:j=i
 ·subst e
  rw[hsp] at hj
  cases hj
  rw[setV_same]
  exact hv
 ·rw[setL_ne L e] at hL
  rw[setV_ne V v e]
  exact Sp.upN hs (hI j s' hj hL)
theorem IOn_step {H0 : PH} {L:Nat→Bool} {V:Nat→Value} {H O H2:PH} {i:Nat} {v:Value} {s:Sp} (hI:IOn H0 L V H O) (hLi:L i=false) (hs:Sub H H2) (hsp:spO[i]?=some s) (hv:s.holds H2 v) (hvn:s.holdsN H0 H2 v)
 (hn:i ≠ 0∧i ≠ 65∧i ≠ 66∧∀ x∈tabO,x.2.1 ≠ i):IOn H0 (setL L i) (setV V i v) H2 O:=
 ⟨IO_step hI.1 hLi hs hsp hv hn,hI.2.1.trans hs,holdsN_set hI.2.2 hs hsp hvn⟩
theorem IOn_map {H0 : PH} {L:Nat→Bool} {V:Nat→Value} {H O:PH} {b:Nat} (hI:IOn H0 L V H O) (hL:L 0=false):IOn H0 (setL L 0) (setV V 0 (.map (some b))) H (ins O b (.map #[] 0)):=
 ⟨IO_map hI.1 hL,hI.2.1,holdsN_set hI.2.2 (Sub.refl _) (s:=.skip) rfl trivial⟩
theorem skipO : ∀ y∈tabO,spO[y.2.1]?=some .skip:=by
 intro y hy
 simp only[tabO,List.mem_cons,List.not_mem_nil,or_false] at hy
 rcases hy with rfl | rfl | rfl | rfl | rfl | rfl | rfl | rfl | rfl | rfl | rfl | rfl
 all_goals rfl
theorem IOn_ins {H0 : PH} {L:Nat→Bool} {V:Nat→Value} {H O:PH} {x:Nat × Nat × Nat} (hx:x∈tabO) {b:Nat} {es:List MapEntry} {clk:Nat} (hI:IOn H0 L V H O) (hL:L x.2.1=false) (hsrc:L x.2.2=true) (h0:L 0=true)
 (hV0:V 0=.map (some b)) (hO:O b=some (.map ⟨es⟩ clk)) {u:Value} (hu:V x.2.2=u):IOn H0 (setL L x.2.1) (setV V x.2.1 undef) H (ins O b (.map ((⟨es⟩:Array MapEntry).push { key:=.int .i64 x.1,val:=u,born:=clk }) (clk+1))):=
 ⟨IO_ins hx hI.1 hL hsrc h0 hV0 hO hu,hI.2.1,holdsN_set hI.2.2 (Sub.refl _) (s:=.skip) (skipO x hx) trivial⟩
theorem IOn_same {H0 : PH} {L:Nat→Bool} {V:Nat→Value} {H O:PH} {i:Nat} {v:Value} (hI:IOn H0 L V H O) (hLi:L i=false) (h0:L 0=true) (hi:i=65∨i=66) (hv:∀ b,V 0=.map (some b)→v=.map (some b)):IOn H0 (setL L i) (setV V i v) H O:=
 ⟨IO_same hI.1 hLi h0 hi hv,hI.2.1,holdsN_set hI.2.2 (Sub.refl _) (s:=.skip) (by rcases hi with rfl | rfl<;>rfl) trivial⟩
def OpsN (H0 H : PH) (r:Value):Prop:=∃ b es clk,r=.map (some b)∧H b=some (.map ⟨es⟩ clk)∧(∀ k,1≤k→k≤12→∃ j u,Instr.findNow (.int .i64) (.int .i64 (k:Nat)) es 0=some (some (j,u))∧MatN H0 H u (opM k))∧∀ n:Int,n < 1∨12 < n→Instr.findNow (.int .i64) (.int .i64 n) es 0=some none
theorem c75n (H : PH):Cl Tryz.prog 208 [] H emp fun r H' _=>OpsN H H' r:=by
 refine Cl.repart (Q:=fun r H' M'=>∃ b es clk,r=.map (some b)∧M' b=some (.map ⟨es⟩ clk)∧(∀ k,1≤k→k≤12→∃ j u,Instr.findNow (.int .i64) (.int .i64 (k:Nat)) es 0=some (some (j,u))∧MatN H H' u (opM k))∧∀ n:Int,n < 1∨12 < n→Instr.findNow (.int .i64) (.int .i64 n) es 0=some none) ?_ fun r H' M' _ hd ⟨b,es,clk,h1,h2,h3,h4⟩=>⟨_,_,.one hd h2,b,es,clk,h1,ins_same _ _ _,fun k k1 k2=>by
  obtain⟨j,u,h5,h6⟩:=h3 k k1 k2
  exact⟨j,u,h5,h6.up (sub_ins _ _ ((hd b).resolve_right (by rw[h2];simp)))⟩,h4⟩
 refine Cl_of (pol:=polO) Γok Tryz.func208 (by kernel_rfl) rfl ?_
 conv=>whnf
 refine (c140 1 _).val fun H1 s1=>?_
 conv=>whnf
 intro b2
 conv=>whnf
 refine (c141 rootN _).val fun H2 s2=>?_
 conv=>whnf
 intro b4
 conv=>whnf
 refine W_free (pol:=polO) Γok mixes 69 (by kernel_rfl) rfl (IOn H) ⟨⟨fun i s _ h=>(by cases h),fun x _ h=>(by cases h),fun h=>(by cases h),fun _=>⟨fun _ _=>rfl,rfl,rfl⟩⟩,s1.trans s2,fun i s _ h=>(by cases h)⟩ ?_ ?_
 ·intro i o ho L V H' O' hI hLi hsee
  have hi:i < 67:=(List.getElem?_eq_some_iff.1 ho).1
  have get:∀ (j:Nat) s,spO[j]?=some s→seesB _ o j=true→s.holds H' (V j):=fun j s hj h=>hI.1.1 j s hj (hsee j h)
  obtain rfl | rfl | rfl | rfl | rfl | rfl | rfl | rfl | rfl | rfl | rfl | rfl | rfl | rfl | rfl | rfl | rfl | rfl | rfl | rfl | rfl | rfl | rfl | rfl | rfl | rfl | rfl | rfl | rfl | rfl | rfl | rfl | rfl | rfl | rfl | rfl | rfl | rfl | rfl | rfl | rfl | rfl | rfl | rfl | rfl | rfl | rfl | rfl | rfl | rfl | rfl | rfl | rfl | rfl | rfl | rfl | rfl | rfl | rfl | rfl | rfl | rfl | rfl | rfl | rfl | rfl | rfl:i=0∨i=1∨i=2∨i=3∨i=4∨i=5∨i=6∨i=7∨i=8∨i=9∨i=10∨i=11∨i=12∨i=13∨i=14∨i=15∨i=16∨i=17∨i=18∨i=19∨i=20∨i=21∨i=22∨i=23∨i=24∨i=25∨i=26∨i=27∨i=28∨i=29∨i=30∨i=31∨i=32∨i=33∨i=34∨i=35∨i=36∨i=37∨i=38∨i=39∨i=40∨i=41∨i=42∨i=43∨i=44∨i=45∨i=46∨i=47∨i=48∨i=49∨i=50∨i=51∨i=52∨i=53∨i=54∨i=55∨i=56∨i=57∨i=58∨i=59∨i=60∨i=61∨i=62∨i=63∨i=64∨i=65∨i=66:=by omega
  ·
   cases ho
   conv=>whnf
   intro b hb hO
   exact⟨⟨_,rfl⟩,_,rfl,IOn_map hI hLi⟩
  ·
   cases ho
   conv=>whnf
   refine (c133m tX 2 (by decide) (by decide) _ (.func 219) #[] #[] (fun k hk=>⟨219,[],[],rfl,fun H4 _=>c142b k hk H4⟩)).use fun u H3 s3 hq=>?_
   obtain⟨_,hq⟩:=hq
   conv=>whnf
   exact⟨⟨_,rfl⟩,_,rfl,IOn_step hI hLi s3 rfl hq.mat (hq.base hI.2.1) (by decide)⟩
  ·
   cases ho
   have h0:=hsee 0 (by kernel_rfl)
   have hs:=hsee 1 (by kernel_rfl)
   obtain⟨b,es,clk,hV0,hO,hF,_⟩:=hI.1.2.2.1 h0
   conv=>whnf
   unfold enterK
   refine .inl ?_
   refine⟨.i64,1,b,⟨es⟩,clk,rfl,hV0,hO,(hF 1 0).1 (keyVal_none (x:=(1,2,1)) (by decide) hLi),?_⟩
   conv=>whnf
   exact⟨⟨_,rfl⟩,_,rfl,IOn_ins (x:=(1,2,1)) (by decide) hI hLi hs h0 hV0 hO rfl⟩
  ·
   cases ho
   conv=>whnf
   exact⟨⟨_,rfl⟩,_,rfl,IOn_step hI hLi (Sub.refl _) rfl rfl trivial (by decide)⟩
  ·
   cases ho
   conv=>whnf
   exact⟨⟨_,rfl⟩,_,rfl,IOn_step hI hLi (Sub.refl _) rfl rfl trivial (by decide)⟩
  ·
   cases ho
   have h:=get 4 _ rfl (by kernel_rfl)
   change V 4=_ at h
   conv=>whnf
   rw[h]
   conv=>whnf
   refine (c54 6 _).val fun H3 s3=>?_
   conv=>whnf
   exact⟨⟨_,rfl⟩,_,rfl,IOn_step hI hLi s3 rfl rfl trivial (by decide)⟩
  ·
   cases ho
   conv=>whnf
   have h3:=get 3 _ rfl (by kernel_rfl)
   change V 3=_ at h3
   have h5:=get 5 _ rfl (by kernel_rfl)
   change V 5=_ at h5
   rw[h3]
   conv=>whnf
   rw[h5]
   conv=>whnf
   intro b hb hO
   conv=>whnf
   exact⟨⟨_,rfl⟩,_,rfl,IOn_step hI hLi (sub_ins _ _ hb) rfl (pair_num (ins_same _ _ _)) (numN_new hI.2.1 hb rfl rfl) (by decide)⟩
  ·
   cases ho
   conv=>whnf
   exact⟨⟨_,rfl⟩,_,rfl,IOn_step hI hLi (Sub.refl _) rfl rfl trivial (by decide)⟩
  ·
   cases ho
   have h:=get 7 _ rfl (by kernel_rfl)
   change V 7=_ at h
   conv=>whnf
   rw[h]
   conv=>whnf
   refine (c54 2 _).val fun H3 s3=>?_
   conv=>whnf
   exact⟨⟨_,rfl⟩,_,rfl,IOn_step hI hLi s3 rfl rfl trivial (by decide)⟩
  ·
   cases ho
   conv=>whnf
   exact⟨⟨_,rfl⟩,_,rfl,IOn_step hI hLi (Sub.refl _) rfl rfl trivial (by decide)⟩
  ·
   cases ho
   conv=>whnf
   have h8:=get 8 _ rfl (by kernel_rfl)
   change V 8=_ at h8
   have h9:=get 9 _ rfl (by kernel_rfl)
   change V 9=_ at h9
   rw[h8]
   conv=>whnf
   rw[h9]
   conv=>whnf
   intro b hb hO
   conv=>whnf
   exact⟨⟨_,rfl⟩,_,rfl,IOn_step hI hLi (sub_ins _ _ hb) rfl (pair_num (ins_same _ _ _)) (numN_new hI.2.1 hb rfl rfl) (by decide)⟩
  ·
   cases ho
   have h6:=get 6 _ rfl (by kernel_rfl)
   change NumH _ (V 6) _ at h6
   obtain⟨base6,cap6,e6,_⟩:=id h6
   have h10:=get 10 _ rfl (by kernel_rfl)
   change NumH _ (V 10) _ at h10
   obtain⟨base10,cap10,e10,_⟩:=id h10
   conv=>whnf
   rw[e6]
   conv=>whnf
   rw[e10]
   conv=>whnf
   intro b hb hO
   conv=>whnf
   have f6:=h6
   rw[e6] at f6
   have f10:=h10
   rw[e10] at f10
   refine⟨⟨_,rfl⟩,_,rfl,IOn_step hI hLi (sub_ins _ _ hb) rfl (mat2 (ins_same _ _ _) ?_ ?_) ?_ (by decide)⟩
   ·exact f6.up (sub_ins _ _ hb)
   ·exact f10.up (sub_ins _ _ hb)
   ·have g6:=hI.2.2 6 _ rfl (hsee 6 (by kernel_rfl))
    change NumN _ _ (V 6) _ at g6
    rw[e6] at g6
    have g10:=hI.2.2 10 _ rfl (hsee 10 (by kernel_rfl))
    change NumN _ _ (V 10) _ at g10
    rw[e10] at g10
    exact mat2N hI.2.1 hb g6 g10 rfl rfl fun e=>absurd (congrArg vInts e) (by decide +kernel)
  ·
   cases ho
   have h0:=hsee 0 (by kernel_rfl)
   have hs:=hsee 11 (by kernel_rfl)
   obtain⟨b,es,clk,hV0,hO,hF,_⟩:=hI.1.2.2.1 h0
   conv=>whnf
   unfold enterK
   refine .inl ?_
   refine⟨.i64,2,b,⟨es⟩,clk,rfl,hV0,hO,(hF 2 0).1 (keyVal_none (x:=(2,12,11)) (by decide) hLi),?_⟩
   conv=>whnf
   exact⟨⟨_,rfl⟩,_,rfl,IOn_ins (x:=(2,12,11)) (by decide) hI hLi hs h0 hV0 hO rfl⟩
  ·
   cases ho
   conv=>whnf
   refine (c74 _).val fun H3 s3=>?_
   conv=>whnf
   exact⟨⟨_,rfl⟩,_,rfl,IOn_step hI hLi s3 rfl rfl trivial (by decide)⟩
  ·
   cases ho
   conv=>whnf
   exact⟨⟨_,rfl⟩,_,rfl,IOn_step hI hLi (Sub.refl _) rfl rfl trivial (by decide)⟩
  ·
   cases ho
   have h:=get 14 _ rfl (by kernel_rfl)
   change V 14=_ at h
   conv=>whnf
   rw[h]
   conv=>whnf
   refine (c54 4 _).val fun H3 s3=>?_
   conv=>whnf
   exact⟨⟨_,rfl⟩,_,rfl,IOn_step hI hLi s3 rfl rfl trivial (by decide)⟩
  ·
   cases ho
   conv=>whnf
   have h13:=get 13 _ rfl (by kernel_rfl)
   change V 13=_ at h13
   have h15:=get 15 _ rfl (by kernel_rfl)
   change V 15=_ at h15
   rw[h13]
   conv=>whnf
   rw[h15]
   conv=>whnf
   intro b hb hO
   conv=>whnf
   exact⟨⟨_,rfl⟩,_,rfl,IOn_step hI hLi (sub_ins _ _ hb) rfl (pair_num (ins_same _ _ _)) (numN_new hI.2.1 hb rfl rfl) (by decide)⟩
  ·
   cases ho
   have h:=get 16 _ rfl (by kernel_rfl)
   conv=>whnf
   refine (c143m _ (by decide) _ _ h).use fun u H3 s3 hq=>?_
   obtain⟨_,hq⟩:=hq
   conv=>whnf
   exact⟨⟨_,rfl⟩,_,rfl,IOn_step hI hLi s3 rfl hq.mat (hq.base hI.2.1) (by decide)⟩
  ·
   cases ho
   have h0:=hsee 0 (by kernel_rfl)
   have hs:=hsee 17 (by kernel_rfl)
   obtain⟨b,es,clk,hV0,hO,hF,_⟩:=hI.1.2.2.1 h0
   conv=>whnf
   unfold enterK
   refine .inl ?_
   refine⟨.i64,3,b,⟨es⟩,clk,rfl,hV0,hO,(hF 3 0).1 (keyVal_none (x:=(3,18,17)) (by decide) hLi),?_⟩
   conv=>whnf
   exact⟨⟨_,rfl⟩,_,rfl,IOn_ins (x:=(3,18,17)) (by decide) hI hLi hs h0 hV0 hO rfl⟩
  ·
   cases ho
   conv=>whnf
   exact⟨⟨_,rfl⟩,_,rfl,IOn_step hI hLi (Sub.refl _) rfl rfl trivial (by decide)⟩
  ·
   cases ho
   conv=>whnf
   exact⟨⟨_,rfl⟩,_,rfl,IOn_step hI hLi (Sub.refl _) rfl rfl trivial (by decide)⟩
  ·
   cases ho
   conv=>whnf
   have h19:=get 19 _ rfl (by kernel_rfl)
   change V 19=_ at h19
   have h20:=get 20 _ rfl (by kernel_rfl)
   change V 20=_ at h20
   rw[h19]
   conv=>whnf
   rw[h20]
   conv=>whnf
   intro b hb hO
   conv=>whnf
   exact⟨⟨_,rfl⟩,_,rfl,IOn_step hI hLi (sub_ins _ _ hb) rfl (pair_num (ins_same _ _ _)) (numN_new hI.2.1 hb rfl rfl) (by decide)⟩
  ·
   cases ho
   conv=>whnf
   exact⟨⟨_,rfl⟩,_,rfl,IOn_step hI hLi (Sub.refl _) rfl rfl trivial (by decide)⟩
  ·
   cases ho
   conv=>whnf
   exact⟨⟨_,rfl⟩,_,rfl,IOn_step hI hLi (Sub.refl _) rfl rfl trivial (by decide)⟩
  ·
   cases ho
   conv=>whnf
   have h22:=get 22 _ rfl (by kernel_rfl)
   change V 22=_ at h22
   have h23:=get 23 _ rfl (by kernel_rfl)
   change V 23=_ at h23
   rw[h22]
   conv=>whnf
   rw[h23]
   conv=>whnf
   intro b hb hO
   conv=>whnf
   exact⟨⟨_,rfl⟩,_,rfl,IOn_step hI hLi (sub_ins _ _ hb) rfl (pair_num (ins_same _ _ _)) (numN_new hI.2.1 hb rfl rfl) (by decide)⟩
  ·
   cases ho
   have h21:=get 21 _ rfl (by kernel_rfl)
   change NumH _ (V 21) _ at h21
   obtain⟨base21,cap21,e21,_⟩:=id h21
   have h24:=get 24 _ rfl (by kernel_rfl)
   change NumH _ (V 24) _ at h24
   obtain⟨base24,cap24,e24,_⟩:=id h24
   conv=>whnf
   rw[e21]
   conv=>whnf
   rw[e24]
   conv=>whnf
   intro b hb hO
   conv=>whnf
   have f21:=h21
   rw[e21] at f21
   have f24:=h24
   rw[e24] at f24
   refine⟨⟨_,rfl⟩,_,rfl,IOn_step hI hLi (sub_ins _ _ hb) rfl (mat2 (ins_same _ _ _) ?_ ?_) ?_ (by decide)⟩
   ·exact f21.up (sub_ins _ _ hb)
   ·exact f24.up (sub_ins _ _ hb)
   ·have g21:=hI.2.2 21 _ rfl (hsee 21 (by kernel_rfl))
    change NumN _ _ (V 21) _ at g21
    rw[e21] at g21
    have g24:=hI.2.2 24 _ rfl (hsee 24 (by kernel_rfl))
    change NumN _ _ (V 24) _ at g24
    rw[e24] at g24
    exact mat2N hI.2.1 hb g21 g24 rfl rfl fun e=>absurd (congrArg vInts e) (by decide +kernel)
  ·
   cases ho
   have h0:=hsee 0 (by kernel_rfl)
   have hs:=hsee 25 (by kernel_rfl)
   obtain⟨b,es,clk,hV0,hO,hF,_⟩:=hI.1.2.2.1 h0
   conv=>whnf
   unfold enterK
   refine .inl ?_
   refine⟨.i64,4,b,⟨es⟩,clk,rfl,hV0,hO,(hF 4 0).1 (keyVal_none (x:=(4,26,25)) (by decide) hLi),?_⟩
   conv=>whnf
   exact⟨⟨_,rfl⟩,_,rfl,IOn_ins (x:=(4,26,25)) (by decide) hI hLi hs h0 hV0 hO rfl⟩
  ·
   cases ho
   conv=>whnf
   refine (c74 _).val fun H3 s3=>?_
   conv=>whnf
   exact⟨⟨_,rfl⟩,_,rfl,IOn_step hI hLi s3 rfl rfl trivial (by decide)⟩
  ·
   cases ho
   conv=>whnf
   exact⟨⟨_,rfl⟩,_,rfl,IOn_step hI hLi (Sub.refl _) rfl rfl trivial (by decide)⟩
  ·
   cases ho
   have h:=get 28 _ rfl (by kernel_rfl)
   change V 28=_ at h
   conv=>whnf
   rw[h]
   conv=>whnf
   refine (c54 2 _).val fun H3 s3=>?_
   conv=>whnf
   exact⟨⟨_,rfl⟩,_,rfl,IOn_step hI hLi s3 rfl rfl trivial (by decide)⟩
  ·
   cases ho
   conv=>whnf
   have h27:=get 27 _ rfl (by kernel_rfl)
   change V 27=_ at h27
   have h29:=get 29 _ rfl (by kernel_rfl)
   change V 29=_ at h29
   rw[h27]
   conv=>whnf
   rw[h29]
   conv=>whnf
   intro b hb hO
   conv=>whnf
   exact⟨⟨_,rfl⟩,_,rfl,IOn_step hI hLi (sub_ins _ _ hb) rfl (pair_num (ins_same _ _ _)) (numN_new hI.2.1 hb rfl rfl) (by decide)⟩
  ·
   cases ho
   have h:=get 30 _ rfl (by kernel_rfl)
   conv=>whnf
   refine (c143m _ (by decide) _ _ h).use fun u H3 s3 hq=>?_
   obtain⟨_,hq⟩:=hq
   conv=>whnf
   exact⟨⟨_,rfl⟩,_,rfl,IOn_step hI hLi s3 rfl hq.mat (hq.base hI.2.1) (by decide)⟩
  ·
   cases ho
   have h0:=hsee 0 (by kernel_rfl)
   have hs:=hsee 31 (by kernel_rfl)
   obtain⟨b,es,clk,hV0,hO,hF,_⟩:=hI.1.2.2.1 h0
   conv=>whnf
   unfold enterK
   refine .inl ?_
   refine⟨.i64,5,b,⟨es⟩,clk,rfl,hV0,hO,(hF 5 0).1 (keyVal_none (x:=(5,32,31)) (by decide) hLi),?_⟩
   conv=>whnf
   exact⟨⟨_,rfl⟩,_,rfl,IOn_ins (x:=(5,32,31)) (by decide) hI hLi hs h0 hV0 hO rfl⟩
  ·
   cases ho
   conv=>whnf
   refine (c74 _).val fun H3 s3=>?_
   conv=>whnf
   exact⟨⟨_,rfl⟩,_,rfl,IOn_step hI hLi s3 rfl rfl trivial (by decide)⟩
  ·
   cases ho
   conv=>whnf
   exact⟨⟨_,rfl⟩,_,rfl,IOn_step hI hLi (Sub.refl _) rfl rfl trivial (by decide)⟩
  ·
   cases ho
   have h:=get 34 _ rfl (by kernel_rfl)
   change V 34=_ at h
   conv=>whnf
   rw[h]
   conv=>whnf
   refine (c54 6 _).val fun H3 s3=>?_
   conv=>whnf
   exact⟨⟨_,rfl⟩,_,rfl,IOn_step hI hLi s3 rfl rfl trivial (by decide)⟩
  ·
   cases ho
   conv=>whnf
   have h33:=get 33 _ rfl (by kernel_rfl)
   change V 33=_ at h33
   have h35:=get 35 _ rfl (by kernel_rfl)
   change V 35=_ at h35
   rw[h33]
   conv=>whnf
   rw[h35]
   conv=>whnf
   intro b hb hO
   conv=>whnf
   exact⟨⟨_,rfl⟩,_,rfl,IOn_step hI hLi (sub_ins _ _ hb) rfl (pair_num (ins_same _ _ _)) (numN_new hI.2.1 hb rfl rfl) (by decide)⟩
  ·
   cases ho
   have h:=get 36 _ rfl (by kernel_rfl)
   conv=>whnf
   refine (c143m _ (by decide) _ _ h).use fun u H3 s3 hq=>?_
   obtain⟨_,hq⟩:=hq
   conv=>whnf
   exact⟨⟨_,rfl⟩,_,rfl,IOn_step hI hLi s3 rfl hq.mat (hq.base hI.2.1) (by decide)⟩
  ·
   cases ho
   have h0:=hsee 0 (by kernel_rfl)
   have hs:=hsee 37 (by kernel_rfl)
   obtain⟨b,es,clk,hV0,hO,hF,_⟩:=hI.1.2.2.1 h0
   conv=>whnf
   unfold enterK
   refine .inl ?_
   refine⟨.i64,6,b,⟨es⟩,clk,rfl,hV0,hO,(hF 6 0).1 (keyVal_none (x:=(6,38,37)) (by decide) hLi),?_⟩
   conv=>whnf
   exact⟨⟨_,rfl⟩,_,rfl,IOn_ins (x:=(6,38,37)) (by decide) hI hLi hs h0 hV0 hO rfl⟩
  ·
   cases ho
   conv=>whnf
   refine (c74 _).val fun H3 s3=>?_
   conv=>whnf
   exact⟨⟨_,rfl⟩,_,rfl,IOn_step hI hLi s3 rfl rfl trivial (by decide)⟩
  ·
   cases ho
   conv=>whnf
   exact⟨⟨_,rfl⟩,_,rfl,IOn_step hI hLi (Sub.refl _) rfl rfl trivial (by decide)⟩
  ·
   cases ho
   have h:=get 40 _ rfl (by kernel_rfl)
   change V 40=_ at h
   conv=>whnf
   rw[h]
   conv=>whnf
   refine (c54 1 _).val fun H3 s3=>?_
   conv=>whnf
   exact⟨⟨_,rfl⟩,_,rfl,IOn_step hI hLi s3 rfl rfl trivial (by decide)⟩
  ·
   cases ho
   conv=>whnf
   have h39:=get 39 _ rfl (by kernel_rfl)
   change V 39=_ at h39
   have h41:=get 41 _ rfl (by kernel_rfl)
   change V 41=_ at h41
   rw[h39]
   conv=>whnf
   rw[h41]
   conv=>whnf
   intro b hb hO
   conv=>whnf
   exact⟨⟨_,rfl⟩,_,rfl,IOn_step hI hLi (sub_ins _ _ hb) rfl (pair_num (ins_same _ _ _)) (numN_new hI.2.1 hb rfl rfl) (by decide)⟩
  ·
   cases ho
   have h:=get 42 _ rfl (by kernel_rfl)
   conv=>whnf
   refine (c143m _ (by decide) _ _ h).use fun u H3 s3 hq=>?_
   obtain⟨_,hq⟩:=hq
   conv=>whnf
   exact⟨⟨_,rfl⟩,_,rfl,IOn_step hI hLi s3 rfl hq.mat (hq.base hI.2.1) (by decide)⟩
  ·
   cases ho
   have h0:=hsee 0 (by kernel_rfl)
   have hs:=hsee 43 (by kernel_rfl)
   obtain⟨b,es,clk,hV0,hO,hF,_⟩:=hI.1.2.2.1 h0
   conv=>whnf
   unfold enterK
   refine .inl ?_
   refine⟨.i64,7,b,⟨es⟩,clk,rfl,hV0,hO,(hF 7 0).1 (keyVal_none (x:=(7,44,43)) (by decide) hLi),?_⟩
   conv=>whnf
   exact⟨⟨_,rfl⟩,_,rfl,IOn_ins (x:=(7,44,43)) (by decide) hI hLi hs h0 hV0 hO rfl⟩
  ·
   cases ho
   conv=>whnf
   refine (c74 _).val fun H3 s3=>?_
   conv=>whnf
   exact⟨⟨_,rfl⟩,_,rfl,IOn_step hI hLi s3 rfl rfl trivial (by decide)⟩
  ·
   cases ho
   conv=>whnf
   exact⟨⟨_,rfl⟩,_,rfl,IOn_step hI hLi (Sub.refl _) rfl rfl trivial (by decide)⟩
  ·
   cases ho
   have h:=get 46 _ rfl (by kernel_rfl)
   change V 46=_ at h
   conv=>whnf
   rw[h]
   conv=>whnf
   refine (c54 7 _).val fun H3 s3=>?_
   conv=>whnf
   exact⟨⟨_,rfl⟩,_,rfl,IOn_step hI hLi s3 rfl rfl trivial (by decide)⟩
  ·
   cases ho
   conv=>whnf
   have h45:=get 45 _ rfl (by kernel_rfl)
   change V 45=_ at h45
   have h47:=get 47 _ rfl (by kernel_rfl)
   change V 47=_ at h47
   rw[h45]
   conv=>whnf
   rw[h47]
   conv=>whnf
   intro b hb hO
   conv=>whnf
   exact⟨⟨_,rfl⟩,_,rfl,IOn_step hI hLi (sub_ins _ _ hb) rfl (pair_num (ins_same _ _ _)) (numN_new hI.2.1 hb rfl rfl) (by decide)⟩
  ·
   cases ho
   have h:=get 48 _ rfl (by kernel_rfl)
   conv=>whnf
   refine (c143m _ (by decide) _ _ h).use fun u H3 s3 hq=>?_
   obtain⟨_,hq⟩:=hq
   conv=>whnf
   exact⟨⟨_,rfl⟩,_,rfl,IOn_step hI hLi s3 rfl hq.mat (hq.base hI.2.1) (by decide)⟩
  ·
   cases ho
   have h0:=hsee 0 (by kernel_rfl)
   have hs:=hsee 49 (by kernel_rfl)
   obtain⟨b,es,clk,hV0,hO,hF,_⟩:=hI.1.2.2.1 h0
   conv=>whnf
   unfold enterK
   refine .inl ?_
   refine⟨.i64,8,b,⟨es⟩,clk,rfl,hV0,hO,(hF 8 0).1 (keyVal_none (x:=(8,50,49)) (by decide) hLi),?_⟩
   conv=>whnf
   exact⟨⟨_,rfl⟩,_,rfl,IOn_ins (x:=(8,50,49)) (by decide) hI hLi hs h0 hV0 hO rfl⟩
  ·
   cases ho
   conv=>whnf
   refine (c133m tCX 4 (by decide) (by decide) _ (.func 222) #[] #[] (fun k hk=>⟨222,[],[],rfl,fun H4 _=>c144 k hk H4⟩)).use fun u H3 s3 hq=>?_
   obtain⟨_,hq⟩:=hq
   conv=>whnf
   exact⟨⟨_,rfl⟩,_,rfl,IOn_step hI hLi s3 rfl hq.mat (hq.base hI.2.1) (by decide)⟩
  ·
   cases ho
   have h0:=hsee 0 (by kernel_rfl)
   have hs:=hsee 51 (by kernel_rfl)
   obtain⟨b,es,clk,hV0,hO,hF,_⟩:=hI.1.2.2.1 h0
   conv=>whnf
   unfold enterK
   refine .inl ?_
   refine⟨.i64,9,b,⟨es⟩,clk,rfl,hV0,hO,(hF 9 0).1 (keyVal_none (x:=(9,52,51)) (by decide) hLi),?_⟩
   conv=>whnf
   exact⟨⟨_,rfl⟩,_,rfl,IOn_ins (x:=(9,52,51)) (by decide) hI hLi hs h0 hV0 hO rfl⟩
  ·
   cases ho
   conv=>whnf
   refine (c74 _).val fun H3 s3=>?_
   conv=>whnf
   exact⟨⟨_,rfl⟩,_,rfl,IOn_step hI hLi s3 rfl rfl trivial (by decide)⟩
  ·
   cases ho
   conv=>whnf
   refine (c74 _).val fun H3 s3=>?_
   conv=>whnf
   exact⟨⟨_,rfl⟩,_,rfl,IOn_step hI hLi s3 rfl rfl trivial (by decide)⟩
  ·
   cases ho
   conv=>whnf
   refine (c74 _).val fun H3 s3=>?_
   conv=>whnf
   exact⟨⟨_,rfl⟩,_,rfl,IOn_step hI hLi s3 rfl rfl trivial (by decide)⟩
  ·
   cases ho
   conv=>whnf
   exact⟨⟨_,rfl⟩,_,rfl,IOn_step hI hLi (Sub.refl _) rfl rfl trivial (by decide)⟩
  ·
   cases ho
   have h:=get 56 _ rfl (by kernel_rfl)
   change V 56=_ at h
   conv=>whnf
   rw[h]
   conv=>whnf
   refine (c54 4 _).val fun H3 s3=>?_
   conv=>whnf
   exact⟨⟨_,rfl⟩,_,rfl,IOn_step hI hLi s3 rfl rfl trivial (by decide)⟩
  ·
   cases ho
   conv=>whnf
   have h53:=get 53 _ rfl (by kernel_rfl)
   change V 53=_ at h53
   have h54:=get 54 _ rfl (by kernel_rfl)
   change V 54=_ at h54
   have h55:=get 55 _ rfl (by kernel_rfl)
   change V 55=_ at h55
   have h57:=get 57 _ rfl (by kernel_rfl)
   change V 57=_ at h57
   rw[h53]
   conv=>whnf
   rw[h54]
   conv=>whnf
   rw[h55]
   conv=>whnf
   rw[h57]
   conv=>whnf
   intro b hb hO
   conv=>whnf
   exact⟨⟨_,rfl⟩,_,rfl,IOn_step hI hLi (sub_ins _ _ hb) rfl (quad_num (ins_same _ _ _)) (numN_new hI.2.1 hb rfl rfl) (by decide)⟩
  ·
   cases ho
   have h:=get 58 _ rfl (by kernel_rfl)
   conv=>whnf
   refine (c143m _ (by decide) _ _ h).use fun u H3 s3 hq=>?_
   obtain⟨_,hq⟩:=hq
   conv=>whnf
   exact⟨⟨_,rfl⟩,_,rfl,IOn_step hI hLi s3 rfl hq.mat (hq.base hI.2.1) (by decide)⟩
  ·
   cases ho
   have h0:=hsee 0 (by kernel_rfl)
   have hs:=hsee 59 (by kernel_rfl)
   obtain⟨b,es,clk,hV0,hO,hF,_⟩:=hI.1.2.2.1 h0
   conv=>whnf
   unfold enterK
   refine .inl ?_
   refine⟨.i64,10,b,⟨es⟩,clk,rfl,hV0,hO,(hF 10 0).1 (keyVal_none (x:=(10,60,59)) (by decide) hLi),?_⟩
   conv=>whnf
   exact⟨⟨_,rfl⟩,_,rfl,IOn_ins (x:=(10,60,59)) (by decide) hI hLi hs h0 hV0 hO rfl⟩
  ·
   cases ho
   conv=>whnf
   refine (c133m tSwap 4 (by decide) (by decide) _ (.func 223) #[] #[] (fun k hk=>⟨223,[],[],rfl,fun H4 _=>c145 k hk H4⟩)).use fun u H3 s3 hq=>?_
   obtain⟨_,hq⟩:=hq
   conv=>whnf
   exact⟨⟨_,rfl⟩,_,rfl,IOn_step hI hLi s3 rfl hq.mat (hq.base hI.2.1) (by decide)⟩
  ·
   cases ho
   have h0:=hsee 0 (by kernel_rfl)
   have hs:=hsee 61 (by kernel_rfl)
   obtain⟨b,es,clk,hV0,hO,hF,_⟩:=hI.1.2.2.1 h0
   conv=>whnf
   unfold enterK
   refine .inl ?_
   refine⟨.i64,11,b,⟨es⟩,clk,rfl,hV0,hO,(hF 11 0).1 (keyVal_none (x:=(11,62,61)) (by decide) hLi),?_⟩
   conv=>whnf
   exact⟨⟨_,rfl⟩,_,rfl,IOn_ins (x:=(11,62,61)) (by decide) hI hLi hs h0 hV0 hO rfl⟩
  ·
   cases ho
   conv=>whnf
   refine (c133m tCCX 8 (by decide) (by decide) _ (.func 224) #[] #[] (fun k hk=>⟨224,[],[],rfl,fun H4 _=>c146 k hk H4⟩)).use fun u H3 s3 hq=>?_
   obtain⟨_,hq⟩:=hq
   conv=>whnf
   exact⟨⟨_,rfl⟩,_,rfl,IOn_step hI hLi s3 rfl hq.mat (hq.base hI.2.1) (by decide)⟩
  ·
   cases ho
   have h0:=hsee 0 (by kernel_rfl)
   have hs:=hsee 63 (by kernel_rfl)
   obtain⟨b,es,clk,hV0,hO,hF,_⟩:=hI.1.2.2.1 h0
   conv=>whnf
   unfold enterK
   refine .inl ?_
   refine⟨.i64,12,b,⟨es⟩,clk,rfl,hV0,hO,(hF 12 0).1 (keyVal_none (x:=(12,64,63)) (by decide) hLi),?_⟩
   conv=>whnf
   exact⟨⟨_,rfl⟩,_,rfl,IOn_ins (x:=(12,64,63)) (by decide) hI hLi hs h0 hV0 hO rfl⟩
  ·
   cases ho
   have h0:=hsee 0 (by kernel_rfl)
   conv=>whnf
   exact⟨⟨_,rfl⟩,_,rfl,IOn_same hI hLi h0 (.inl rfl) fun b h=>h⟩
  ·
   cases ho
   have h65:=hsee 65 (by kernel_rfl)
   have h0:L 0=true:=by
    cases e:L 0 with
    | true=>rfl
    | false=>have:=(hI.1.2.2.2 e).2.1;rw[h65] at this;cases this
   obtain⟨b,es,clk,hV0,_,_,h5,_⟩:=hI.1.2.2.1 h0
   conv=>whnf
   exact⟨⟨_,rfl⟩,_,rfl,IOn_same hI hLi h0 (.inr rfl) fun b' h=>(h5 h65).trans (hV0.symm.trans h)⟩
 ·intro L V H' O' hI hL
  have hl:∀ j,j < 67→L j=true:=fun j hj=>hL j hj
  obtain⟨b,es,clk,hV0,hO,hF,_,h66⟩:=hI.1.2.2.1 (hl 0 (by decide))
  conv=>whnf
  refine⟨b,es,clk,h66 (hl 66 (by decide)),hO,fun k k1 k2=>?_,fun n hn=>(hF n 0).1 ?_⟩
  ·obtain rfl | rfl | rfl | rfl | rfl | rfl | rfl | rfl | rfl | rfl | rfl | rfl:k=1∨k=2∨k=3∨k=4∨k=5∨k=6∨k=7∨k=8∨k=9∨k=10∨k=11∨k=12:=by omega
   ·obtain⟨j,hj⟩:=(hF 1 0).2 _ (keyVal_some (x:=(1,2,1)) (by decide) (hl 2 (by decide)))
    exact⟨j,_,hj,hI.2.2 1 _ rfl (hl 1 (by decide))⟩
   ·obtain⟨j,hj⟩:=(hF 2 0).2 _ (keyVal_some (x:=(2,12,11)) (by decide) (hl 12 (by decide)))
    exact⟨j,_,hj,hI.2.2 11 _ rfl (hl 11 (by decide))⟩
   ·obtain⟨j,hj⟩:=(hF 3 0).2 _ (keyVal_some (x:=(3,18,17)) (by decide) (hl 18 (by decide)))
    exact⟨j,_,hj,hI.2.2 17 _ rfl (hl 17 (by decide))⟩
   ·obtain⟨j,hj⟩:=(hF 4 0).2 _ (keyVal_some (x:=(4,26,25)) (by decide) (hl 26 (by decide)))
    exact⟨j,_,hj,hI.2.2 25 _ rfl (hl 25 (by decide))⟩
   ·obtain⟨j,hj⟩:=(hF 5 0).2 _ (keyVal_some (x:=(5,32,31)) (by decide) (hl 32 (by decide)))
    exact⟨j,_,hj,hI.2.2 31 _ rfl (hl 31 (by decide))⟩
   ·obtain⟨j,hj⟩:=(hF 6 0).2 _ (keyVal_some (x:=(6,38,37)) (by decide) (hl 38 (by decide)))
    exact⟨j,_,hj,hI.2.2 37 _ rfl (hl 37 (by decide))⟩
   ·obtain⟨j,hj⟩:=(hF 7 0).2 _ (keyVal_some (x:=(7,44,43)) (by decide) (hl 44 (by decide)))
    exact⟨j,_,hj,hI.2.2 43 _ rfl (hl 43 (by decide))⟩
   ·obtain⟨j,hj⟩:=(hF 8 0).2 _ (keyVal_some (x:=(8,50,49)) (by decide) (hl 50 (by decide)))
    exact⟨j,_,hj,hI.2.2 49 _ rfl (hl 49 (by decide))⟩
   ·obtain⟨j,hj⟩:=(hF 9 0).2 _ (keyVal_some (x:=(9,52,51)) (by decide) (hl 52 (by decide)))
    exact⟨j,_,hj,hI.2.2 51 _ rfl (hl 51 (by decide))⟩
   ·obtain⟨j,hj⟩:=(hF 10 0).2 _ (keyVal_some (x:=(10,60,59)) (by decide) (hl 60 (by decide)))
    exact⟨j,_,hj,hI.2.2 59 _ rfl (hl 59 (by decide))⟩
   ·obtain⟨j,hj⟩:=(hF 11 0).2 _ (keyVal_some (x:=(11,62,61)) (by decide) (hl 62 (by decide)))
    exact⟨j,_,hj,hI.2.2 61 _ rfl (hl 61 (by decide))⟩
   ·obtain⟨j,hj⟩:=(hF 12 0).2 _ (keyVal_some (x:=(12,64,63)) (by decide) (hl 64 (by decide)))
    exact⟨j,_,hj,hI.2.2 63 _ rfl (hl 63 (by decide))⟩
  ·have h12:∀ x∈tabO,1≤x.1∧x.1≤12:=by decide
   unfold keyVal
   rw[show (tabO.find? fun y=>((y.1:Int) == n) && L y.2.1)=none from List.find?_eq_none.2 fun y hy h=>?_]
   ·rfl
   ·simp only[Bool.and_eq_true,beq_iff_eq] at h
    have:=h12 y hy
    omega
theorem c21m (k : Int) (H:PH):Cl Tryz.prog 191 [.int .i64 k] H emp fun r _ M'=>OutO M' r (OfR k):=by
 by_cases hk:1≤k∧k≤12
 ·have e:OfR k=(opM k.toNat,0):=if_pos hk
  rw[e]
  refine Cl.mine (Q:=fun r u=>r=.tuple #[u,.int .i64 0]) ?_
  obtain⟨n,rfl⟩:=nat_of (a:=k) (by omega)
  rw[Int.toNat_natCast]
  refine Cl_of (pol:=polL) Γok Tryz.func191 (by kernel_rfl) rfl ?_
  conv=>whnf
  refine (c75n _).use fun r H1 s1 hr=>?_
  obtain⟨_,b,es,clk,rfl,hb,hkk,_⟩:=hr
  obtain⟨j,u,hj,hu⟩:=hkk n (by omega) (by omega)
  conv=>whnf
  unfold lookK
  refine⟨.i64,n,rfl,.inr ⟨b,⟨es⟩,clk,_,rfl,.inl hb,hj,?_⟩⟩
  intro z
  conv=>whnf
  exact⟨u,rfl,hu⟩
 ·have e:OfR k=([],3):=if_neg hk
  rw[e]
  refine Cl_of (pol:=polL) Γok Tryz.func191 (by kernel_rfl) rfl ?_
  conv=>whnf
  refine (c75n _).use fun r H1 s1 hr=>?_
  obtain⟨_,b,es,clk,rfl,hb,_,hno⟩:=hr
  have hj:=hno k (by omega)
  conv=>whnf
  unfold lookK
  refine⟨.i64,k,rfl,.inr ⟨b,⟨es⟩,clk,_,rfl,.inl hb,hj,?_⟩⟩
  intro z
  conv=>whnf
  exact⟨_,rfl,.inl ⟨rfl,rfl⟩⟩
theorem c22o (m : Mx) (hlm:m.length < 1000000) (ws:List Int) (hws:ws.length < 100000) (n:Int) (H:PH) (u v:Value) (hu:MatH H u m) (hv:IntsH H v ws) :
 Cl Tryz.prog 192 [u,v,.int .i64 n] H emp fun r _ M'=>OutO M' r (resM (onErr m ws n) (onAt m ws) (2 ^ n.toNat) (2 ^ n.toNat)):=
 (c22 m hlm ws hws n H u v hu hv).mono fun r H' M' _ hr=>by
  rcases hr with⟨h,rfl⟩ | ⟨h,hm⟩
  ·rw[resM_bad h]
   exact .bad
  ·have hn:¬ (decide (n < 0) || decide (n > 6))=true:=fun e=>by
    unfold onErr at h
    by_cases q:checkMF m ≠ 0
    ·rw[if_pos q] at h;exact q h
    ·rw[if_neg q,if_pos e] at h;cases h
   have hn6:n.toNat≤6:=by
    simp at hn
    omega
   have p2:2 ^ n.toNat < 1000000:=by
    have:2 ^ n.toNat≤2 ^ 6:=Nat.pow_le_pow_right (by decide) hn6
    omega
   exact MadeE.out p2 p2 hm h
def IntsB (O : PH) (v:Value) (l:List Int):Prop:=IntsO O v l∧∀ b n cap,v=.slice b n cap→cap≤9223372036854775807
theorem IntsB.mk {O : PH} {b n cap:Nat} {l:List Int} {spare:List Value} (h:O b=some (.cells ⟨l.map (fun x=>Value.int .i64 x)++spare⟩ 3 (0,0))) (hn:n=l.length) (hc:l.length≤cap) (hs:spare.length=cap - l.length) (hcap:cap≤9223372036854775807):IntsB O (.slice (some ⟨b,0,none⟩) n cap) l:=by
 subst hn
 refine⟨⟨by simp,.inr ⟨b,cap,spare,by simp,by rw[flat_oneI];exact h,by simpa using hc,by simpa using hs⟩⟩,fun _ _ _ e=>by cases e;exact hcap⟩
theorem IntsB.sub {O O' : PH} {v:Value} {l:List Int} (h:IntsB O v l) (hs:Sub O O'):IntsB O' v l:=by
 obtain⟨⟨h1,h2⟩,h3⟩:=h
 refine⟨⟨h1,?_⟩,h3⟩
 rcases h2 with h | ⟨b,cap,sp,e,ho,q⟩
 ·exact .inl h
 ·exact .inr ⟨b,cap,sp,e,hs _ _ ho,q⟩
instance (p : P4) (n : Int) : Decidable (p.within n) := by unfold P4.within; exact inferInstance
instance : DecidableEq P4 := fun p q => if h : p.a = q.a ∧ p.b = q.b ∧ p.c = q.c ∧ p.d = q.d then isTrue (P4.ext' h.1 h.2.1 h.2.2.1 h.2.2.2) else isFalse fun e => h (by rw [e]; exact ⟨rfl, rfl, rfl, rfl⟩)
structure Gt where
 kind:Int
 ws:List Int
 bit:Int
 cond:Int
 deriving DecidableEq
def arityF (k : Int):Int:=if k=12 then 3 else if 9≤k∧k≤11 then 2 else if 1≤k∧k≤14 then 1 else 0
theorem arityF_range (k : Int):0≤arityF k∧arityF k≤3:=by
 unfold arityF
 split
 ·omega
 split
 ·omega
 split<;>omega
theorem d75 (k : Int) (H:PH):Cl Tryz.prog 190 [.int .i64 k] H emp fun r _ _=>r=.int .i64 (arityF k):=by
 refine Cl_of (pol:=polL) Γok Tryz.func190 (by kernel_rfl) rfl ?_
 conv=>whnf
 repeat' (refine if_intro (fun h=>?_) (fun h=>?_)<;>conv=>whnf)
 all_goals (simp only[beq_iff_eq,beq_eq_false_iff_ne,ne_eq,decide_eq_true_eq,decide_eq_false_iff_not] at *;unfold arityF;congr 1)
 all_goals (first | (rw[if_pos (by omega)];done) | (rw[if_neg (by omega),if_pos (by omega)];done) | (rw[if_neg (by omega),if_neg (by omega),if_pos (by omega)];done) | (rw[if_neg (by omega),if_neg (by omega),if_neg (by omega)];done))
theorem d112 (k : Int) (H:PH):Cl Tryz.prog 145 [.int .i64 k] H emp fun r _ _=>r=.int .i64 (arityF k):=by
 refine Cl_of (pol:=polL) Γok Tryz.func145 (by kernel_rfl) rfl ?_
 conv=>whnf
 repeat' (refine if_intro (fun h=>?_) (fun h=>?_)<;>conv=>whnf)
 all_goals (simp only[beq_iff_eq,beq_eq_false_iff_ne,ne_eq,decide_eq_true_eq,decide_eq_false_iff_not] at *;unfold arityF;congr 1)
 all_goals (first | (rw[if_pos (by omega)];done) | (rw[if_neg (by omega),if_pos (by omega)];done) | (rw[if_neg (by omega),if_neg (by omega),if_pos (by omega)];done) | (rw[if_neg (by omega),if_neg (by omega),if_neg (by omega)];done))
def offF (n lo hi : Int):Bool:=decide (n < lo) || decide (n > hi)
theorem d121 (n lo hi : Int) (H:PH):Cl Tryz.prog 160 [.int .i64 n,.int .i64 lo,.int .i64 hi] H emp fun r _ _=>r=.bool (offF n lo hi):=by
 refine Cl_of (pol:=polL) Γok Tryz.func160 (by kernel_rfl) rfl ?_
 conv=>whnf
 unfold offF
 refine if_intro (fun h=>?_) (fun h=>?_)<;>conv=>whnf
 ·rw[h]<;>rfl
 ·rw[h]<;>rfl
theorem IntsH.sl {H : PH} {v:Value} {l:List Int} (h:IntsH H v l):∃ base cap,v=.slice base l.length cap:=by
 obtain⟨b,c,e,_⟩:=h
 exact⟨b,c,e⟩
def IntsC (H : PH) (v:Value) (l:List Int):Prop:=∃ base cap,v=.slice base l.length cap∧l.length≤cap∧IntsH H v l
theorem IntsC.up {H H' : PH} {v:Value} {l:List Int} (h:IntsC H v l) (hs:Sub H H'):IntsC H' v l:=by
 obtain⟨b,c,e,h1,h2⟩:=h
 exact⟨b,c,e,h1,IntsH.up h2 hs⟩
theorem IntsC.h {H : PH} {v:Value} {l:List Int} (h:IntsC H v l):IntsH H v l:=by
 obtain⟨_,_,_,_,h2⟩:=h
 exact h2
theorem IntsH.pre {H : PH} {base base':Option Addr} {n n' cap cap':Nat} {l:List Int} (h:IntsH H (.slice base n cap) l) {i:Nat} (hi:i≤l.length) (hb:base'=base) (hn:n'=i):IntsH H (.slice base' n' cap') (l.take i):=by
 subst hb hn
 obtain⟨_,_,e,h⟩:=h
 cases e
 have hl:(l.take n').length=n':=by rw[List.length_take];omega
 refine⟨base',cap',by rw[hl],?_⟩
 rcases h with⟨h,_⟩ | ⟨b,off,c,t,fr,h1,h2,h3⟩
 ·refine .inl ⟨by rw[hl];omega,?_⟩
  have:l=[]:=List.length_eq_zero_iff.1 h
  subst this
  simp
 ·refine .inr ⟨b,off,c,t,fr,h1,h2,?_⟩
  rw[List.length_map,hl,List.map_take,← h3,List.take_take,List.length_map,Nat.min_eq_left hi]
theorem contains_take {l : List Int} {x:Int} {i:Nat} (hi:i < l.length):(l.take (i+1)).contains x=((l.take i).contains x || (l[i] == x)):=by
 rw[List.take_succ_eq_append_getElem hi,List.contains_eq_any_beq,List.contains_eq_any_beq,List.any_append]
 simp[Bool.beq_comm,eq_comm]
theorem d156 (l : List Int) (x:Int) (hlen:l.length < 9223372036854775808) (H:PH) (v:Value) (hv:IntsH H v l):Cl Tryz.prog 198 [v,.int .i64 x] H emp fun r _ _=>r=.bool (l.contains x):=by
 obtain⟨base,cap,rfl⟩:=hv.sl
 refine Cl_of (pol:=polL) Γok Tryz.func198 (by kernel_rfl) rfl ?_
 conv=>whnf
 refine W_loop (pol:=polL) Γok (Nat × PH) (fun i=>i.1≤l.length∧Sub H i.2∧(l.take i.1).contains x=false) (fun i=>l.length - i.1) (fun i=>[(5,.v (.int .i64 i.1))]) (fun _=>[]) (fun i=>i.2) (fun _=>emp) ⟨(0,H),⟨by simp,Sub.refl _,rfl⟩,rfl,rfl,?_⟩ ?_
 ·conv=>whnf
  repeat (refine⟨rfl,?_⟩;conv=>whnf)
  exact trivial
 rintro ⟨i,Hi⟩ ⟨h1i,hsi,hpi⟩
 dsimp only at h1i hsi hpi
 conv=>whnf
 refine if_intro (fun hci=>?_) (fun hci=>?_)
 ·have hii:i < l.length:=by
   have:=of_decide_eq_true hci
   omega
  conv=>whnf
  obtain⟨b,off,rfl,hrd⟩:=(IntsH.up hv hsi).rd hii
  conv=>whnf
  refine dec_intro (by omega) ?_
  conv=>whnf
  refine⟨_,hrd emp,?_⟩
  conv=>whnf
  refine if_intro (fun hx=>?_) (fun hx=>?_)
  ·conv=>whnf
   have:l.contains x=true:=by
    rw[List.contains_iff_mem]
    have hx:l[i]=x:=by simpa using hx
    rw[← hx]
    exact List.getElem_mem hii
   rw[this]
  conv=>whnf
  refine⟨(i+1,Hi),⟨by dsimp only;omega,hsi,by rw[contains_take hii,hpi,hx]<;>rfl⟩,by dsimp only;omega,?_⟩
  refine⟨rfl,rfl,?_⟩
  conv=>whnf
  repeat (refine⟨rfl,?_⟩;conv=>whnf)
  refine⟨by show En.v (.int .i64 (IntKind.i64.wrap (i+1)))=_;rw[wrap_id (by omega) (by omega)]<;>rfl,?_⟩
  conv=>whnf
  repeat (refine⟨rfl,?_⟩;conv=>whnf)
  exact trivial
 have hii:i=l.length:=by
  have:=of_decide_eq_false hci
  omega
 subst hii
 dsimp only
 conv=>whnf
 rw[List.take_length] at hpi
 rw[hpi]
def gateErr (g : Gt) (w b:Int):Int:=
 if arityF g.kind=0 then 3 else if (g.ws.length:Int) ≠ arityF g.kind then 2 else if g.ws.all (inW w)=false then 1 else if twiceF g.ws=true then 5
 else if (offF g.cond 0 b || (g.kind == 13 && offF g.bit 0 (b - 1)))=true then 1 else if ((decide (g.kind ≥ 13) && g.cond != 0) || (g.kind != 13 && g.bit != 0))=true then 7 else 0
def gv (g : Gt) (w:Value):Value:=.agg ⟨[.int .i64 g.kind,w,.int .i64 g.bit,.int .i64 g.cond]⟩
theorem offF_inW (x w : Int):offF x 0 (w - 1)=!inW w x:=by
 unfold offF inW
 by_cases h1:x < 0
 ·rw[decide_eq_true h1,decide_eq_false (show ¬ x ≥ 0 by omega)]<;>rfl
 ·by_cases h2:x < w
  ·rw[decide_eq_false h1,decide_eq_false (show ¬ x > w - 1 by omega),decide_eq_true (show x ≥ 0 by omega),decide_eq_true h2]<;>rfl
  ·rw[decide_eq_true (show x > w - 1 by omega),decide_eq_false h2];simp
theorem twice_false {ws : List Int} (h:∀ q,q < ws.length→(ws.take q).contains (ws.getD q 0)=false):twiceF ws=false:=by
 unfold twiceF
 rw[List.any_eq_false]
 intro q hq
 rw[h q (List.mem_range.1 hq)]
 simp
theorem twice_true {ws : List Int} {i:Nat} (hi:i < ws.length) (h:(ws.take i).contains ws[i]=true):twiceF ws=true:=by
 unfold twiceF
 refine List.any_eq_true.2 ⟨i,List.mem_range.2 hi,?_⟩
 rw[List.getD_eq_getElem?_getD,List.getElem?_eq_getElem hi]
 exact h
theorem all_take {l : List Int} {p:Int→Bool} {i:Nat} (hi:i < l.length):(l.take (i+1)).all p=((l.take i).all p && p l[i]):=by
 rw[List.take_succ_eq_append_getElem hi,List.all_append]
 simp
theorem all_no {l : List Int} {p:Int→Bool} {i:Nat} (hi:i < l.length) (h:p l[i]=false):l.all p=false:=by
 rw[List.all_eq_false]
 exact⟨l[i],List.getElem_mem hi,by rw[h];simp⟩
def lastErr (g : Gt) (b:Int):Int:=
 if (offF g.cond 0 b || (g.kind == 13 && offF g.bit 0 (b - 1)))=true then 1 else if ((decide (g.kind ≥ 13) && g.cond != 0) || (g.kind != 13 && g.bit != 0))=true then 7 else 0
theorem d122 (g : Gt) (wires bits:Int) (h1:0≤wires∧wires≤1000) (h2:0≤bits∧bits≤1000) (hlen:g.ws.length < 9223372036854775808) (H:PH) (w:Value) (hw:IntsC H w g.ws) :
 Cl Tryz.prog 161 [gv g w,.int .i64 wires,.int .i64 bits] H emp fun r _ _=>r=.int .i64 (gateErr g wires bits):=by
 obtain⟨wb,wc,rfl,hwc,hw⟩:=hw
 refine Cl_of (pol:=polL) Γok Tryz.func161 (by kernel_rfl) rfl ?_
 conv=>whnf
 intro b3
 conv=>whnf
 refine (d112 g.kind _).val fun Ha sa=>?_
 conv=>whnf
 refine if_intro (fun ha=>?_) (fun ha=>?_)
 ·conv=>whnf
  rw[show gateErr g wires bits=3 from if_pos (by simpa using ha)]
 replace ha:¬ arityF g.kind=0:=by simpa using ha
 conv=>whnf
 refine W_draw (pol:=polL) Γok mixes [(0,.pend),(1,.pend),(2,.pend),(3,.pendO),(4,.pendO),(5,.lock),(6,.pendO)] 86 (by kernel_rfl) rfl ?_
 conv=>whnf
 refine (d112 g.kind _).val fun Hb sb=>?_
 conv=>whnf
 refine if_intro (fun hb=>?_) (fun hb=>?_)
 ·conv=>whnf
  rw[show gateErr g wires bits=2 by unfold gateErr;rw[if_neg ha,if_pos (by simpa using hb)]]
 replace hb:¬ ¬ (g.ws.length:Int)=arityF g.kind:=by simpa using hb
 conv=>whnf
 have hwb:=IntsH.up (IntsH.up hw sa) sb
 refine W_loop (pol:=polL) Γok (Nat × PH) (fun i=>i.1≤g.ws.length∧Sub Hb i.2∧(g.ws.take i.1).all (inW wires)=true) (fun i=>g.ws.length - i.1) (fun i=>[(7,.v (.int .i64 i.1))]) (fun _=>[]) (fun i=>i.2) (fun _=>emp) ⟨(0,Hb),⟨by simp,Sub.refl _,rfl⟩,rfl,rfl,?_⟩ ?_
 ·conv=>whnf
  repeat (refine⟨rfl,?_⟩;conv=>whnf)
  exact trivial
 rintro ⟨i,Hi⟩ ⟨h1i,hsi,hpi⟩
 dsimp only at h1i hsi hpi
 conv=>whnf
 refine if_intro (fun hci=>?_) (fun hci=>?_)
 ·have hii:i < g.ws.length:=by
   have:=of_decide_eq_true hci
   omega
  conv=>whnf
  obtain⟨bb,off,rfl,hrd⟩:=(IntsH.up hwb hsi).rd hii
  conv=>whnf
  refine dec_intro (by omega) ?_
  conv=>whnf
  refine⟨_,hrd emp,?_⟩
  conv=>whnf
  rw[wrap_id (n:=wires - 1) (by omega) (by omega)]
  refine (d121 g.ws[i] 0 (wires - 1) _).val fun H1 s1=>?_
  rw[offF_inW]
  conv=>whnf
  refine if_intro (fun hx=>?_) (fun hx=>?_)
  ·conv=>whnf
   rw[show gateErr g wires bits=1 by unfold gateErr;rw[if_neg ha,if_neg hb,if_pos (all_no hii (by simpa using hx))]]
  conv=>whnf
  refine⟨(i+1,H1),⟨by dsimp only;omega,hsi.trans s1,by rw[all_take hii,hpi];simpa using hx⟩,by dsimp only;omega,?_⟩
  refine⟨rfl,rfl,?_⟩
  conv=>whnf
  repeat (refine⟨rfl,?_⟩;conv=>whnf)
  refine⟨by show En.v (.int .i64 (IntKind.i64.wrap (i+1)))=_;rw[wrap_id (by omega) (by omega)]<;>rfl,?_⟩
  conv=>whnf
  repeat (refine⟨rfl,?_⟩;conv=>whnf)
  exact trivial
 have hii:i=g.ws.length:=by
  have:=of_decide_eq_false hci
  omega
 subst hii
 dsimp only
 conv=>whnf
 rw[List.take_length] at hpi
 have hc3:¬ g.ws.all (inW wires)=false:=by rw[hpi];simp
 refine W_loop (pol:=polL) Γok (Nat × PH) (fun i=>i.1≤g.ws.length∧Sub Hi i.2∧∀ q,q < i.1→(g.ws.take q).contains (g.ws.getD q 0)=false) (fun i=>g.ws.length - i.1) (fun i=>[(8,.v (.int .i64 i.1))]) (fun _=>[]) (fun i=>i.2) (fun _=>emp) ⟨(0,Hi),⟨by simp,Sub.refl _,fun q hq=>by omega⟩,rfl,rfl,?_⟩ ?_
 ·conv=>whnf
  repeat (refine⟨rfl,?_⟩;conv=>whnf)
  exact trivial
 rintro ⟨j,Hj⟩ ⟨h1j,hsj,hpj⟩
 dsimp only at h1j hsj hpj
 conv=>whnf
 refine if_intro (fun hcj=>?_) (fun hcj=>?_)
 ·have hij:j < g.ws.length:=by
   have:=of_decide_eq_true hcj
   omega
  conv=>whnf
  obtain⟨bb,off,rfl,hrd⟩:=(IntsH.up hwb (hsi.trans hsj)).rd hij
  conv=>whnf
  refine W_draw (pol:=polL) Γok mixes [(0,.pendO),(1,.pendO),(2,.pendO),(3,.pendO),(4,.pendO),(5,.pendO),(6,.pendO),(7,.pendO),(8,.pendO),(9,.lock)] 86 (by kernel_rfl) rfl ?_
  conv=>whnf
  refine dec_intro (by omega) ?_
  conv=>whnf
  refine dec_intro (by omega) ?_
  conv=>whnf
  refine⟨_,hrd emp,?_⟩
  conv=>whnf
  refine (d156 (g.ws.take j) g.ws[j] (by rw[List.length_take];omega) _ _ (IntsH.pre (IntsH.up hwb (hsi.trans hsj)) (by omega) (by split<;>simp[Addr.add]) rfl)).val fun H1 s1=>?_
  conv=>whnf
  refine if_intro (fun hx=>?_) (fun hx=>?_)
  ·conv=>whnf
   rw[show gateErr g wires bits=5 by unfold gateErr;rw[if_neg ha,if_neg hb,if_neg hc3,if_pos (twice_true hij hx)]]
  conv=>whnf
  refine⟨(j+1,H1),⟨by dsimp only;omega,hsj.trans s1,fun q hq=>by
   rcases Nat.lt_succ_iff_lt_or_eq.1 hq with h | rfl
   ·exact hpj q h
   ·rw[List.getD_eq_getElem?_getD,List.getElem?_eq_getElem hij];exact hx⟩,by dsimp only;omega,?_⟩
  refine⟨rfl,rfl,?_⟩
  conv=>whnf
  repeat (refine⟨rfl,?_⟩;conv=>whnf)
  refine⟨by show En.v (.int .i64 (IntKind.i64.wrap (j+1)))=_;rw[wrap_id (by omega) (by omega)]<;>rfl,?_⟩
  conv=>whnf
  repeat (refine⟨rfl,?_⟩;conv=>whnf)
  exact trivial
 have hij:j=g.ws.length:=by
  have:=of_decide_eq_false hcj
  omega
 subst hij
 dsimp only
 conv=>whnf
 have hc4:¬ twiceF g.ws=true:=by rw[twice_false hpj];simp
 rw[show gateErr g wires bits=lastErr g bits by unfold gateErr;rw[if_neg ha,if_neg hb,if_neg hc3,if_neg hc4];rfl]
 refine (d121 g.cond 0 bits _).val fun Hc sc=>?_
 conv=>whnf
 refine if_intro (fun h5=>?_) (fun h5=>?_)
 ·conv=>whnf
  rw[show lastErr g bits=1 by simp[lastErr,h5]]
 conv=>whnf
 refine if_intro (fun h6=>?_) (fun h6=>?_)
 ·conv=>whnf
  rw[wrap_id (n:=bits - 1) (by omega) (by omega)]
  refine (d121 g.bit 0 (bits - 1) _).val fun Hd sd=>?_
  conv=>whnf
  refine if_intro (fun h7=>?_) (fun h7=>?_)
  ·conv=>whnf
   rw[show lastErr g bits=1 by simp[lastErr,h5,h6,h7]]
  conv=>whnf
  clear hwb hwc hw ha hb hc3 hc4 h1 h2 hlen sa sb
  repeat' (refine if_intro (fun h=>?_) (fun h=>?_)<;>conv=>whnf)
  all_goals (congr 1;simp_all [lastErr]<;>(intros;omega))
 conv=>whnf
 clear hwb hwc hw ha hb hc3 hc4 h1 h2 hlen sa sb
 repeat' (refine if_intro (fun h=>?_) (fun h=>?_)<;>conv=>whnf)
 all_goals (congr 1;simp_all [lastErr]<;>(intros;omega))
def RecsH (H : PH) (sz:Nat) (v:Value) (cs:List (List Value)):Prop:=(∀ c∈cs,c.length=sz)∧SlH H v cs.length cs.flatten
theorem RecsH.up {H H' : PH} {sz:Nat} {v:Value} {cs:List (List Value)} (h:RecsH H sz v cs) (hs:Sub H H'):RecsH H' sz v cs:=⟨h.1,h.2.up hs⟩
theorem flat_at {sz : Nat}:∀ {cs:List (List Value)},(∀ c∈cs,c.length=sz)→∀ {i:Nat} (hi:i < cs.length),(cs.flatten.drop (i*sz)).take sz=cs[i]
 | [],_,i,hi=>absurd hi (by simp)
 | c::cs,h,0,_=>by
  have:=h c (by simp)
  simp[← this]
 | c::cs,h,i+1,hi=>by
  have hc:=h c (by simp)
  rw[List.flatten_cons,Nat.succ_mul,Nat.add_comm (i*sz) sz,← List.drop_drop,← hc,List.drop_left,hc]
  exact flat_at (fun c hc=>h c (by simp[hc])) (by simpa using hi)
theorem RecsH.rd {H : PH} {sz:Nat} {base:Option Addr} {n cap:Nat} {cs:List (List Value)} (h:RecsH H sz (.slice base n cap) cs) {i:Nat} (hi:i < cs.length) :
 ∃ b off,base=some ⟨b,off,none⟩∧∀ H' O,Sub H H'→Rd H' O ⟨b,off+i*sz,none⟩ sz cs[i]:=by
 obtain⟨h1,h2⟩:=h
 obtain⟨_,_,e,_⟩:=id h2
 cases e
 have hl:=flat_length h1
 obtain⟨b,off,hb,_⟩:=h2.rd (O:=emp) (sz:=sz) hl hi
 refine⟨b,off,hb,fun H' O hs=>?_⟩
 obtain⟨b',off',hb',hr⟩:=(h2.up hs).rd (O:=O) (sz:=sz) hl hi
 rw[hb] at hb'
 cases hb'
 rwa [flat_at h1 hi] at hr
theorem RecsH.sl {H : PH} {sz:Nat} {v:Value} {cs:List (List Value)} (h:RecsH H sz v cs):∃ base cap,v=.slice base cs.length cap:=by
 obtain⟨b,c,e,_⟩:=h.2
 exact⟨b,c,e⟩
def GateC (H : PH) (g:Gt) (c:List Value):Prop:=∃ w,c=[.int .i64 g.kind,w,.int .i64 g.bit,.int .i64 g.cond]∧IntsC H w g.ws
theorem GateC.up {H H' : PH} {g:Gt} {c:List Value} (h:GateC H g c) (hs:Sub H H'):GateC H' g c:=by
 obtain⟨w,e,h⟩:=h
 exact⟨w,e,h.up hs⟩
def GatesH (H : PH) (v:Value) (gs:List Gt):Prop:=∃ cs:List (List Value),cs.length=gs.length∧RecsH H 4 v cs∧∀ (i:Nat) g c,gs[i]?=some g→cs[i]?=some c→GateC H g c
theorem GatesH.up {H H' : PH} {v:Value} {gs:List Gt} (h:GatesH H v gs) (hs:Sub H H'):GatesH H' v gs:=by
 obtain⟨cs,h1,h2,h3⟩:=h
 exact⟨cs,h1,h2.up hs,fun i g c a b=>(h3 i g c a b).up hs⟩
theorem GatesH.sl {H : PH} {v:Value} {gs:List Gt} (h:GatesH H v gs):∃ base cap,v=.slice base gs.length cap:=by
 obtain⟨cs,h1,h2,_⟩:=h
 rw[← h1]
 exact h2.sl
theorem GatesH.rd {H : PH} {base:Option Addr} {n cap:Nat} {gs:List Gt} (h:GatesH H (.slice base n cap) gs) {i:Nat} (hi:i < gs.length) :
 ∃ b off w wb wc,base=some ⟨b,off,none⟩∧w=.slice wb gs[i].ws.length wc∧(∀ H' O,Sub H H'→Rd H' O ⟨b,off+i*4,none⟩ 4 [.int .i64 gs[i].kind,w,.int .i64 gs[i].bit,.int .i64 gs[i].cond])∧IntsC H w gs[i].ws:=by
 obtain⟨cs,h1,h2,h3⟩:=h
 obtain⟨b,off,hb,hr⟩:=h2.rd (i:=i) (by omega)
 obtain⟨w,e,hw⟩:=h3 i _ _ (List.getElem?_eq_getElem hi) (List.getElem?_eq_getElem (by omega))
 obtain⟨wb,wc,ew,_⟩:=id hw
 refine⟨b,off,w,wb,wc,hb,ew,fun H' O hs=>?_,hw⟩
 rw[← e]
 exact hr H' O hs
theorem d119 (xs : List Gt) (p:Gt→Bool) (H:PH) (v f:Value) (hv:GatesH H v xs) (hf:∀ x∈xs,∀ w,IntsC H w x.ws→Does Tryz.prog H f [gv x w] fun r _=>r=.bool (p x)) (hlen:xs.length < 9223372036854775808) :
 Cl Tryz.prog 159 [v,f] H emp fun r _ _=>r=.int .i64 (match xs.findIdx? p with | some i=>(i:Int) | none=>-1):=by
 obtain⟨base,cap,rfl⟩:=hv.sl
 refine Cl_of (pol:=polL) Γok Tryz.func159 (by kernel_rfl) rfl ?_
 conv=>whnf
 refine W_loop (pol:=polL) Γok (Nat × PH) (fun i=>i.1≤xs.length∧Sub H i.2∧∀ x∈xs.take i.1,p x=false) (fun i=>xs.length - i.1) (fun i=>[(8,.v (.int .i64 i.1))]) (fun _=>[]) (fun i=>i.2) (fun _=>emp) ⟨(0,H),⟨by simp,Sub.refl _,fun x hx=>by simp at hx⟩,rfl,rfl,?_⟩ ?_
 ·conv=>whnf
  repeat (refine⟨rfl,?_⟩;conv=>whnf)
  exact trivial
 rintro ⟨i,Hi⟩ ⟨h1i,hsi,hpi⟩
 dsimp only at h1i hsi hpi
 conv=>whnf
 refine if_intro (fun hci=>?_) (fun hci=>?_)
 ·have hii:i < xs.length:=by
   have:=of_decide_eq_true hci
   omega
  conv=>whnf
  obtain⟨b,off,w,wb,wc,rfl,hw,hrd,hwe⟩:=hv.rd hii
  subst hw
  conv=>whnf
  refine dec_intro (by omega) ?_
  conv=>whnf
  refine⟨_,hrd Hi emp hsi,?_⟩
  conv=>whnf
  refine ((hf xs[i] (List.getElem_mem hii) _ hwe).up hsi).use fun r H1 s1 hr=>?_
  subst hr
  conv=>whnf
  refine if_intro (fun hp=>?_) (fun hp=>?_)
  ·conv=>whnf
   have:xs.findIdx? p=some i:=by
    rw[List.findIdx?_eq_some_iff_getElem]
    exact⟨hii,hp,fun j hj=>by
     have:=hpi xs[j] (List.mem_take_iff_getElem.2 ⟨j,by omega,rfl⟩)
     simp[this]⟩
   rw[this]
  conv=>whnf
  refine⟨(i+1,H1),⟨by dsimp only;omega,hsi.trans s1,fun x hx=>by
   rw[List.take_succ_eq_append_getElem hii] at hx
   rcases List.mem_append.1 hx with hx | hx
   ·exact hpi x hx
   ·simp at hx;rw[hx];exact hp⟩,by dsimp only;omega,?_⟩
  refine⟨rfl,rfl,?_⟩
  conv=>whnf
  repeat (refine⟨rfl,?_⟩;conv=>whnf)
  refine⟨by show En.v (.int .i64 (IntKind.i64.wrap (i+1)))=_;rw[wrap_id (by omega) (by omega)]<;>rfl,?_⟩
  conv=>whnf
  repeat (refine⟨rfl,?_⟩;conv=>whnf)
  exact trivial
 have hii:i=xs.length:=by
  have:=of_decide_eq_false hci
  omega
 subst hii
 dsimp only
 conv=>whnf
 have:xs.findIdx? p=none:=by
  rw[List.findIdx?_eq_none_iff]
  intro x hx
  exact hpi x (by rw[List.take_length];exact hx)
 rw[this]
theorem d80 (xs : List Gt) (p:Gt→Bool) (H:PH) (v f:Value) (hv:GatesH H v xs) (hf:∀ x∈xs,∀ w,IntsC H w x.ws→Does Tryz.prog H f [gv x w] fun r _=>r=.bool (p x)) (hlen:xs.length < 9223372036854775808) :
 Cl Tryz.prog 93 [v,f] H emp fun r _ _=>r=.bool (xs.any p):=by
 refine Cl_of (pol:=polL) Γok Tryz.func93 (by kernel_rfl) rfl ?_
 conv=>whnf
 refine (d119 xs p H v f hv hf hlen).val fun H' hs=>?_
 conv=>whnf
 congr 1
 cases h:xs.findIdx? p with
 | none=>
  rw[List.findIdx?_eq_none_iff] at h
  have:xs.any p=false:=by simpa using h
  rw[this]<;>rfl
 | some i=>
  rw[List.findIdx?_eq_some_iff_getElem] at h
  obtain⟨hi,hp,_⟩:=h
  have:xs.any p=true:=List.any_eq_true.2 ⟨_,List.getElem_mem hi,hp⟩
  rw[this]
  simp
theorem d180 (x : Int) (q:Bool) (H:PH) (b:Nat) (f:Value) (t:TypeId) (hb:H b=some (.cells ⟨[f]⟩ t (0,0))) (hf:Does Tryz.prog H f [.int .i64 x] fun r _=>r=.bool q) :
 Cl Tryz.prog 213 [.int .i64 x,.pointer (some ⟨b,0,none⟩)] H emp fun r _ _=>r=.bool (!q):=by
 refine Cl_of (pol:=polL) Γok Tryz.func213 (by kernel_rfl) rfl ?_
 conv=>whnf
 refine⟨_,Rd.whole hb,?_⟩
 conv=>whnf
 refine hf.use fun r H' hs hr=>?_
 subst hr
 conv=>whnf
theorem d161 (xs : List Int) (p:Int→Bool) (H:PH) (v:Value) (fn:Fn) (first cap:Array Value) (hv:IntsH H v xs) (hf:∀ x∈xs,Does Tryz.prog H (.func fn first cap) [.int .i64 x] fun r _=>r=.bool (p x)) (hlen:xs.length < 9223372036854775808) :
 Cl Tryz.prog 200 [v,.func fn first cap] H emp fun r _ _=>r=.bool (xs.all p):=by
 obtain⟨base,cp,rfl,hv'⟩:=id hv
 refine Cl_of (pol:=(fun | 3=>.imm | _=>.loc)) Γok Tryz.func200 (by kernel_rfl) rfl ?_
 conv=>whnf
 intro b hb hO
 conv=>whnf
 have hs:=sub_ins H (.cells ⟨[.func fn first cap]⟩ 130 (0,0)) hb
 refine (c147 xs (fun x=>!p x) _ _ _ (IntsH.up hv hs) (fun x hx=>⟨213,[],[_],rfl,fun H' hs'=>d180 x (p x) H' b (.func fn first cap) _ (hs' _ _ (ins_same _ _ _)) ((hf x hx).up (hs.trans hs'))⟩) (by omega)).val fun H' _=>?_
 conv=>whnf
 congr 1
 simp[List.not_any_eq_all_not]
theorem d160 (w n : Int) (H:PH) (b:Nat) (x y z:Value) (t:TypeId) (hb:H b=some (.cells ⟨[.int .i64 n,x,y,z]⟩ t (0,0))):Cl Tryz.prog 199 [.int .i64 w,.pointer (some ⟨b,0,none⟩)] H emp fun r _ _=>r=.bool (inW n w):=by
 refine Cl_of (pol:=polL) Γok Tryz.func199 (by kernel_rfl) rfl ?_
 conv=>whnf
 unfold inW
 refine if_intro (fun h=>?_) (fun h=>?_)
 ·conv=>whnf
  refine⟨_,⟨rfl,rfl,_,_,_,.inl hb,rfl⟩,?_⟩
  conv=>whnf
  rw[h]
  rfl
 ·conv=>whnf
  rw[h]
  rfl
theorem kind_le {k : Int} (h:¬ arityF k=0):1≤k∧k≤14:=by
 unfold arityF at h
 by_cases h1:k=12
 ·omega
 rw[if_neg h1] at h
 by_cases h2:9≤k∧k≤11
 ·omega
 rw[if_neg h2] at h
 by_cases h3:1≤k∧k≤14
 ·exact h3
 ·rw[if_neg h3] at h;exact absurd rfl h
def wkv (wires bits : Int) (gs:Value):Value:=.agg ⟨[.int .i64 wires,.int .i64 bits,gs,.nilFunc]⟩
theorem d129 (g : Gt) (wires bits:Int) (gsb:Option Addr) (gsn gsc:Nat) (h1:0≤wires∧wires≤1000) (h2:0≤bits∧bits≤1000) (hlen:g.ws.length < 9223372036854775808) (H:PH) (w:Value) (hw:IntsC H w g.ws) :
 Cl Tryz.prog 163 [wkv wires bits (.slice gsb gsn gsc),gv g w] H emp fun r _ _=>r=.int .i64 (gateErr g wires bits):=by
 obtain⟨wb,wc,rfl,hwc,hw⟩:=hw
 refine Cl_of (pol:=(fun | 2=>.imm | _=>.loc)) Γok Tryz.func163 (by kernel_rfl) rfl ?_
 conv=>whnf
 intro b2 hb2 hO2
 conv=>whnf
 intro b3
 conv=>whnf
 have sw:=sub_ins H (.cells ⟨[.int .i64 wires,.int .i64 bits,.slice gsb gsn gsc,.nilFunc]⟩ 147 (0,0)) hb2
 refine (d75 g.kind _).val fun Ha sa=>?_
 conv=>whnf
 refine if_intro (fun ha=>?_) (fun ha=>?_)
 ·conv=>whnf
  rw[show gateErr g wires bits=3 from if_pos (by simpa using ha)]
 replace ha:¬ arityF g.kind=0:=by simpa using ha
 have hk:=kind_le ha
 conv=>whnf
 refine W_draw (pol:=(fun | 2=>.imm | _=>.loc)) Γok mixes [(0,.pend),(1,.pend),(2,.pend),(3,.pendO),(4,.pendO),(5,.lock),(6,.pendO),(7,.pendO)] 96 (by kernel_rfl) rfl ?_
 conv=>whnf
 refine (d75 g.kind _).val fun Hb sb=>?_
 conv=>whnf
 refine if_intro (fun hb=>?_) (fun hb=>?_)
 ·conv=>whnf
  rw[show gateErr g wires bits=2 by unfold gateErr;rw[if_neg ha,if_pos (by simpa using hb)]]
 replace hb:¬ ¬ (g.ws.length:Int)=arityF g.kind:=by simpa using hb
 conv=>whnf
 have hwb:=IntsH.up (IntsH.up (IntsH.up hw sw) sa) sb
 have hbw:=sb _ _ (sa _ _ (ins_same H b2 (.cells ⟨[.int .i64 wires,.int .i64 bits,.slice gsb gsn gsc,.nilFunc]⟩ 147 (0,0))))
 refine (d161 g.ws (inW wires) _ _ _ _ _ hwb (fun x hx=>⟨199,[],[_],rfl,fun H' hs'=>d160 x wires H' _ _ _ _ _ (hs' _ _ hbw)⟩) (by omega)).val fun Hc sc=>?_
 conv=>whnf
 refine if_intro (fun h3=>?_) (fun h3=>?_)
 ·conv=>whnf
  rw[show gateErr g wires bits=1 by unfold gateErr;rw[if_neg ha,if_neg hb,if_pos (by simpa using h3)]]
 have hc3:¬ g.ws.all (inW wires)=false:=by simpa using h3
 conv=>whnf
 have hwc2:=IntsH.up hwb sc
 refine W_loop (pol:=(fun | 2=>.imm | _=>.loc)) Γok (Nat × PH) (fun i=>i.1≤g.ws.length∧Sub Hc i.2∧∀ q,q < i.1→(g.ws.take q).contains (g.ws.getD q 0)=false) (fun i=>g.ws.length - i.1) (fun i=>[(32,.v (.int .i64 i.1))]) (fun _=>[]) (fun i=>i.2) (fun _=>emp) ⟨(0,Hc),⟨by simp,Sub.refl _,fun q hq=>by omega⟩,rfl,rfl,?_⟩ ?_
 ·conv=>whnf
  repeat (refine⟨rfl,?_⟩;conv=>whnf)
  exact trivial
 rintro ⟨j,Hj⟩ ⟨h1j,hsj,hpj⟩
 dsimp only at h1j hsj hpj
 conv=>whnf
 refine if_intro (fun hcj=>?_) (fun hcj=>?_)
 ·have hij:j < g.ws.length:=by
   have:=of_decide_eq_true hcj
   omega
  conv=>whnf
  obtain⟨bb,off,rfl,hrd⟩:=(IntsH.up hwc2 hsj).rd hij
  conv=>whnf
  refine dec_intro (by omega) ?_
  conv=>whnf
  refine⟨_,hrd emp,?_⟩
  conv=>whnf
  refine dec_intro (by omega) ?_
  conv=>whnf
  refine (c78 (g.ws.take j) g.ws[j] (by rw[List.length_take];omega) _ _ (IntsH.pre (IntsH.up hwc2 hsj) (by omega) (by split<;>simp[Addr.add]) rfl)).val fun H1 s1=>?_
  conv=>whnf
  refine if_intro (fun hx=>?_) (fun hx=>?_)
  ·conv=>whnf
   rw[show gateErr g wires bits=5 by unfold gateErr;rw[if_neg ha,if_neg hb,if_neg hc3,if_pos (twice_true hij hx)]]
  conv=>whnf
  refine⟨(j+1,H1),⟨by dsimp only;omega,hsj.trans s1,fun q hq=>by
   rcases Nat.lt_succ_iff_lt_or_eq.1 hq with h | rfl
   ·exact hpj q h
   ·rw[List.getD_eq_getElem?_getD,List.getElem?_eq_getElem hij];exact hx⟩,by dsimp only;omega,?_⟩
  refine⟨rfl,rfl,?_⟩
  conv=>whnf
  repeat (refine⟨rfl,?_⟩;conv=>whnf)
  refine⟨by show En.v (.int .i64 (IntKind.i64.wrap (j+1)))=_;rw[wrap_id (by omega) (by omega)]<;>rfl,?_⟩
  conv=>whnf
  repeat (refine⟨rfl,?_⟩;conv=>whnf)
  exact trivial
 have hij:j=g.ws.length:=by
  have:=of_decide_eq_false hcj
  omega
 subst hij
 dsimp only
 conv=>whnf
 have hc4:¬ twiceF g.ws=true:=by rw[twice_false hpj];simp
 rw[show gateErr g wires bits=lastErr g bits by unfold gateErr;rw[if_neg ha,if_neg hb,if_neg hc3,if_neg hc4];rfl]
 have hbx:=hsj _ _ (sc _ _ hbw)
 clear hwb hwc hw hb hc3 hc4 h1 hlen sa sb hwc2 hpj
 repeat' (first | (refine if_intro (fun h=>?_) (fun h=>?_)<;>conv=>whnf) | (refine⟨_,⟨rfl,rfl,_,_,_,.inl hbx,rfl⟩,?_⟩;conv=>whnf))
 all_goals (congr 1;simp_all [lastErr,offF]<;>(intros;omega))
structure Ct where
 wires:Int
 bits:Int
 gates:List Gt
def Ct.fit (c : Ct):Prop:=c.gates.length≤100000∧∀ g∈c.gates,g.ws.length≤100000
def circErr (c : Ct):Int:=if (offF c.wires 1 12 || offF c.bits 0 8)=true then 3 else if c.gates.length > 120 then 2 else firstErr (c.gates.map fun g=>gateErr g c.wires c.bits)
def cv (c : Ct) (gs:Value):Value:=.agg ⟨[.int .i64 c.wires,.int .i64 c.bits,gs]⟩
def CircH (H : PH) (v:Value) (c:Ct):Prop:=∃ gs,v=cv c gs∧GatesH H gs c.gates
theorem CircH.up {H H' : PH} {v:Value} {c:Ct} (h:CircH H v c) (hs:Sub H H'):CircH H' v c:=by
 obtain⟨gs,e,h⟩:=h
 exact⟨gs,e,h.up hs⟩
theorem CircH.sl {H : PH} {v:Value} {c:Ct} (h:CircH H v c):∃ gb gc,v=cv c (.slice gb c.gates.length gc)∧GatesH H (.slice gb c.gates.length gc) c.gates:=by
 obtain⟨gs,e,h⟩:=h
 obtain⟨gb,gc,rfl⟩:=h.sl
 exact⟨gb,gc,e,h⟩
theorem circ_in {c : Ct} (h:¬ (offF c.wires 1 12 || offF c.bits 0 8)=true):(1≤c.wires∧c.wires≤12)∧(0≤c.bits∧c.bits≤8):=by
 unfold offF at h
 simp at h
 omega
theorem first_at {f : Gt→Int} {l:List Gt} {i:Nat} (hi:i < l.length) (h:firstErr ((l.drop i).map f)=firstErr (l.map f)) (hn:f l[i] ≠ 0):firstErr (l.map f)=f l[i]:=by
 rw[← h,firstErr_step f hi,if_neg hn]
theorem first_on {f : Gt→Int} {l:List Gt} {i:Nat} (hi:i < l.length) (h:firstErr ((l.drop i).map f)=firstErr (l.map f)) (hn:f l[i]=0):firstErr ((l.drop (i+1)).map f)=firstErr (l.map f):=by
 rw[← h,firstErr_step f hi,if_pos hn]
theorem first_end {f : Gt→Int} {l:List Gt} (h:firstErr ((l.drop l.length).map f)=firstErr (l.map f)):firstErr (l.map f)=0:=by
 rw[← h,List.drop_length]
 rfl
theorem d84 (c : Ct) (hc:c.fit) (H:PH) (v:Value) (hv:CircH H v c):Cl Tryz.prog 95 [v] H emp fun r _ _=>r=.int .i64 (circErr c):=by
 obtain⟨gb,gc,rfl,hg⟩:=hv.sl
 refine Cl_of (pol:=polL) Γok Tryz.func95 (by kernel_rfl) rfl ?_
 conv=>whnf
 intro b1
 conv=>whnf
 refine (d121 c.wires 1 12 _).val fun Ha sa=>?_
 conv=>whnf
 have e3:(offF c.wires 1 12 || offF c.bits 0 8)=true→circErr c=3:=fun h=>if_pos h
 refine if_intro (fun ha=>?_) (fun ha=>?_)
 ·conv=>whnf
  rw[e3 (by rw[ha]<;>rfl)]
 conv=>whnf
 refine (d121 c.bits 0 8 _).val fun Hb sb=>?_
 conv=>whnf
 refine if_intro (fun hb=>?_) (fun hb=>?_)
 ·conv=>whnf
  rw[e3 (by rw[hb,Bool.or_true])]
 conv=>whnf
 have h3:¬ (offF c.wires 1 12 || offF c.bits 0 8)=true:=by rw[ha,hb];simp
 have hin:=circ_in h3
 refine if_intro (fun h4=>?_) (fun h4=>?_)
 ·conv=>whnf
  have h4:=of_decide_eq_true h4
  rw[show circErr c=2 by unfold circErr;rw[if_neg h3,if_pos (by omega)]]
 conv=>whnf
 have h4:=of_decide_eq_false h4
 have e0:circErr c=firstErr (c.gates.map fun g=>gateErr g c.wires c.bits):=by unfold circErr;rw[if_neg h3,if_neg (by omega)]
 refine W_loop (pol:=polL) Γok (Nat × PH) (fun i=>i.1≤c.gates.length∧Sub Hb i.2∧firstErr ((c.gates.drop i.1).map (fun g=>gateErr g c.wires c.bits))=firstErr (c.gates.map (fun g=>gateErr g c.wires c.bits))) (fun i=>c.gates.length - i.1) (fun i=>[(3,.v (.int .i64 i.1))]) (fun _=>[]) (fun i=>i.2) (fun _=>emp) ⟨(0,Hb),⟨by simp,Sub.refl _,rfl⟩,rfl,rfl,?_⟩ ?_
 ·conv=>whnf
  repeat (refine⟨rfl,?_⟩;conv=>whnf)
  exact trivial
 rintro ⟨i,Hi⟩ ⟨h1i,hsi,hpi⟩
 dsimp only at h1i hsi hpi
 conv=>whnf
 refine if_intro (fun hci=>?_) (fun hci=>?_)
 ·have hii:i < c.gates.length:=by
   have:=of_decide_eq_true hci
   omega
  conv=>whnf
  obtain⟨b,off,w,wb,wc,rfl,hw,hrd,hwe⟩:=hg.rd hii
  subst hw
  conv=>whnf
  refine W_draw (pol:=polL) Γok mixes [(0,.pendO),(1,.pendO),(2,.pendO),(3,.pendO),(4,.pendO),(5,.pendO),(6,.pendO),(7,.pendO),(8,.pendO),(9,.lock),(10,.pendO)] 37 (by kernel_rfl) rfl ?_
  conv=>whnf
  refine dec_intro (by omega) ?_
  conv=>whnf
  refine⟨_,hrd Hi emp ((sa.trans sb).trans hsi),?_⟩
  conv=>whnf
  refine (d122 c.gates[i] c.wires c.bits (by omega) (by omega) (by have:=hc.2 _ (List.getElem_mem hii);omega) _ _ (hwe.up ((sa.trans sb).trans hsi))).val fun H1 s1=>?_
  conv=>whnf
  refine if_intro (fun hx=>?_) (fun hx=>?_)
  ·conv=>whnf
   rw[e0,first_at hii hpi (by simpa using hx)]
  conv=>whnf
  refine⟨(i+1,H1),⟨by dsimp only;omega,hsi.trans s1,first_on hii hpi (by simpa using hx)⟩,by dsimp only;omega,?_⟩
  refine⟨rfl,rfl,?_⟩
  conv=>whnf
  repeat (refine⟨rfl,?_⟩;conv=>whnf)
  refine⟨by show En.v (.int .i64 (IntKind.i64.wrap (i+1)))=_;rw[wrap_id (by omega) (by omega)]<;>rfl,?_⟩
  conv=>whnf
  repeat (refine⟨rfl,?_⟩;conv=>whnf)
  exact trivial
 have hii:i=c.gates.length:=by
  have:=of_decide_eq_false hci
  omega
 subst hii
 dsimp only
 conv=>whnf
 rw[e0,first_end hpi]
theorem d88 (c : Ct) (hc:c.fit) (H:PH) (v:Value) (hv:CircH H v c):Cl Tryz.prog 100 [v] H emp fun r _ _=>r=.int .i64 (circErr c):=by
 obtain⟨gb,gc,rfl,hg⟩:=hv.sl
 refine Cl_of (pol:=polL) Γok Tryz.func100 (by kernel_rfl) rfl ?_
 conv=>whnf
 intro b1
 conv=>whnf
 have e3:(offF c.wires 1 12 || offF c.bits 0 8)=true→circErr c=3:=fun h=>if_pos h
 refine if_intro (fun ha=>?_) (fun ha=>?_)
 ·conv=>whnf
  rw[e3 (by unfold offF;rw[ha]<;>rfl)]
 conv=>whnf
 refine if_intro (fun hb=>?_) (fun hb=>?_)
 ·conv=>whnf
  rw[e3 (by unfold offF;rw[hb,Bool.or_true]<;>rfl)]
 conv=>whnf
 refine if_intro (fun hcc=>?_) (fun hcc=>?_)
 ·conv=>whnf
  rw[e3 (by unfold offF;rw[hcc];simp)]
 conv=>whnf
 refine if_intro (fun hd=>?_) (fun hd=>?_)
 ·conv=>whnf
  rw[e3 (by unfold offF;rw[hd];simp)]
 conv=>whnf
 have h3:¬ (offF c.wires 1 12 || offF c.bits 0 8)=true:=by unfold offF;rw[ha,hb,hcc,hd];simp
 have hin:=circ_in h3
 refine if_intro (fun h4=>?_) (fun h4=>?_)
 ·conv=>whnf
  have h4:=of_decide_eq_true h4
  rw[show circErr c=2 by unfold circErr;rw[if_neg h3,if_pos (by omega)]]
 conv=>whnf
 have h4:=of_decide_eq_false h4
 have e0:circErr c=firstErr (c.gates.map fun g=>gateErr g c.wires c.bits):=by unfold circErr;rw[if_neg h3,if_neg (by omega)]
 refine W_loop (pol:=polL) Γok (Nat × PH) (fun i=>i.1≤c.gates.length∧Sub H i.2∧firstErr ((c.gates.drop i.1).map (fun g=>gateErr g c.wires c.bits))=firstErr (c.gates.map (fun g=>gateErr g c.wires c.bits))) (fun i=>c.gates.length - i.1) (fun i=>[(37,.v (.int .i64 i.1))]) (fun _=>[]) (fun i=>i.2) (fun _=>emp) ⟨(0,H),⟨by simp,Sub.refl _,rfl⟩,rfl,rfl,?_⟩ ?_
 ·conv=>whnf
  repeat (refine⟨rfl,?_⟩;conv=>whnf)
  exact trivial
 rintro ⟨i,Hi⟩ ⟨h1i,hsi,hpi⟩
 dsimp only at h1i hsi hpi
 conv=>whnf
 refine if_intro (fun hci=>?_) (fun hci=>?_)
 ·have hii:i < c.gates.length:=by
   have:=of_decide_eq_true hci
   omega
  conv=>whnf
  obtain⟨b,off,w,wb,wc,rfl,hw,hrd,hwe⟩:=hg.rd hii
  subst hw
  conv=>whnf
  refine dec_intro (by omega) ?_
  conv=>whnf
  refine⟨_,hrd Hi emp hsi,?_⟩
  conv=>whnf
  intro b5
  conv=>whnf
  refine (d129 c.gates[i] c.wires c.bits _ _ _ (by omega) (by omega) (by have:=hc.2 _ (List.getElem_mem hii);omega) _ _ (hwe.up hsi)).val fun H1 s1=>?_
  conv=>whnf
  refine if_intro (fun hx=>?_) (fun hx=>?_)
  ·conv=>whnf
   rw[e0,first_at hii hpi (by simpa using hx)]
  conv=>whnf
  refine⟨(i+1,H1),⟨by dsimp only;omega,hsi.trans s1,first_on hii hpi (by simpa using hx)⟩,by dsimp only;omega,?_⟩
  refine⟨rfl,rfl,?_⟩
  conv=>whnf
  repeat (refine⟨rfl,?_⟩;conv=>whnf)
  refine⟨by show En.v (.int .i64 (IntKind.i64.wrap (i+1)))=_;rw[wrap_id (by omega) (by omega)]<;>rfl,?_⟩
  conv=>whnf
  repeat (refine⟨rfl,?_⟩;conv=>whnf)
  exact trivial
 have hii:i=c.gates.length:=by
  have:=of_decide_eq_false hci
  omega
 subst hii
 dsimp only
 conv=>whnf
 rw[e0,first_end hpi]
theorem Rd_part {H O : PH} {b off sz:Nat} {cs:List Value} (h:Rd H O ⟨b,off,none⟩ sz cs) (i n:Nat) (hi:i+n≤sz) {ds:List Value} (he:(cs.drop i).take n=ds):Rd H O ⟨b,off+i,none⟩ n ds:=by
 obtain⟨_,hl,c,t,fr,hb,hc⟩:=h
 refine⟨rfl,?_,c,t,fr,hb,?_⟩
 ·rw[← he,List.length_take,List.length_drop]
  omega
 ·rw[← he,← hc,List.drop_take,List.drop_drop,List.take_take]
  congr 1
  omega
def bigG (g : Gt):Bool:=decide (g.ws.length > 6)
def greatC (c : Ct):Bool:=decide (c.gates.length > 130) || c.gates.any bigG
theorem d81 (g : Gt) (H:PH) (w:Value) (hw:IntsC H w g.ws):Cl Tryz.prog 94 [gv g w] H emp fun r _ _=>r=.bool (bigG g):=by
 obtain⟨wb,wc,rfl,_⟩:=hw
 refine Cl_of (pol:=polL) Γok Tryz.func94 (by kernel_rfl) rfl ?_
 conv=>whnf
 intro b1
 conv=>whnf
 congr 1
 unfold bigG
 apply decide_eq_decide.2
 omega
theorem d31 (c : Ct) (hc:c.gates.length < 9223372036854775808) (H:PH) (v:Value) (hv:CircH H v c):Cl Tryz.prog 37 [v] H emp fun r _ _=>r=.bool (greatC c):=by
 obtain⟨gb,gc,rfl,hg⟩:=hv.sl
 refine Cl_of (pol:=polL) Γok Tryz.func37 (by kernel_rfl) rfl ?_
 conv=>whnf
 intro b1
 conv=>whnf
 have e:decide ((c.gates.length:Int) > 130)=decide (c.gates.length > 130):=decide_eq_decide.2 (by omega)
 unfold greatC
 refine if_intro (fun h=>?_) (fun h=>?_)
 ·conv=>whnf
  rw[← e,h]
  rfl
 conv=>whnf
 refine (d80 c.gates bigG _ _ _ hg (fun x hx w hw=>⟨94,[],[],rfl,fun H2 hs2=>d81 x H2 w (hw.up hs2)⟩) hc).val fun Hb sb=>?_
 conv=>whnf
 rw[← e,h]
 rfl
theorem d30 (g h : Gt) (hl:g.ws.length < 9223372036854775808) (H:PH) (u w:Value) (hu:IntsC H u g.ws) (hw:IntsC H w h.ws):Cl Tryz.prog 36 [gv g u,gv h w] H emp fun r _ _=>r=.bool (decide (g=h)):=by
 obtain⟨ub,uc,rfl,_,hu⟩:=hu
 obtain⟨wb,wc,rfl,_,hw⟩:=hw
 refine Cl_of (pol:=polL) Γok Tryz.func36 (by kernel_rfl) rfl ?_
 conv=>whnf
 intro b1
 conv=>whnf
 intro b2
 conv=>whnf
 have ne:∀ {p:Gt→Int},(p g == p h)=false→decide (g=h)=false:=fun {p} hn=>decide_eq_false fun e=>by rw[e] at hn;simp at hn
 refine if_intro (fun h1=>?_) (fun h1=>?_)
 ·conv=>whnf
  refine if_intro (fun h2=>?_) (fun h2=>?_)
  ·conv=>whnf
   refine if_intro (fun h3=>?_) (fun h3=>?_)
   ·conv=>whnf
    refine (c25 g.ws h.ws hl _ _ _ hu hw).val fun Ha sa=>?_
    conv=>whnf
    congr 1
    apply decide_eq_decide.2
    obtain⟨k1,w1,b1,i1⟩:=g
    obtain⟨k2,w2,b2,i2⟩:=h
    simp at h1 h2 h3
    simp[h1,h2,h3]
   ·conv=>whnf
    rw[ne (p:=Gt.cond) h3]
  ·conv=>whnf
   rw[ne (p:=Gt.bit) h2]
 ·conv=>whnf
  rw[ne (p:=Gt.kind) h1]
theorem d70 (l m : List Gt) (hl:l.length≤100000) (hw:∀ g∈l,g.ws.length≤100000) (H:PH) (u v:Value) (hu:GatesH H u l) (hv:GatesH H v m):Cl Tryz.prog 105 [u,v,.func (.func 36) #[] #[]] H emp fun r _ _=>r=.bool (decide (l=m)):=by
 obtain⟨ub,uc,rfl⟩:=hu.sl
 obtain⟨vb,vc,rfl⟩:=hv.sl
 refine Cl_of (pol:=polL) Γok Tryz.func105 (by kernel_rfl) rfl ?_
 conv=>whnf
 refine if_intro (fun h1=>?_) (fun h1=>?_)
 ·conv=>whnf
  rw[decide_eq_false fun e=>by rw[e] at h1;simp at h1]
 have hlen:l.length=m.length:=by
  have:(l.length:Int)=m.length:=by simpa using h1
  omega
 conv=>whnf
 refine W_loop (pol:=polL) Γok (Nat × PH) (fun i=>i.1≤l.length∧Sub H i.2∧∀ q,q < i.1→l[q]?=m[q]?) (fun i=>l.length - i.1) (fun i=>[(17,.v (.int .i64 i.1))]) (fun _=>[]) (fun i=>i.2) (fun _=>emp) ⟨(0,H),⟨by simp,Sub.refl _,fun q hq=>by omega⟩,rfl,rfl,?_⟩ ?_
 ·conv=>whnf
  repeat (refine⟨rfl,?_⟩;conv=>whnf)
  exact trivial
 rintro ⟨i,Hi⟩ ⟨h1i,hsi,hpi⟩
 dsimp only at h1i hsi hpi
 conv=>whnf
 refine if_intro (fun hci=>?_) (fun hci=>?_)
 ·have hii:i < l.length:=by
   have:=of_decide_eq_true hci
   omega
  conv=>whnf
  have hj:i < m.length:=by omega
  obtain⟨b,off,w,wb,wc,rfl,hw1,hrd,hwe⟩:=hu.rd hii
  obtain⟨b',off',w',wb',wc',rfl,hw2,hrd',hwe'⟩:=hv.rd hj
  subst hw1
  subst hw2
  conv=>whnf
  refine dec_intro (by omega) ?_
  conv=>whnf
  refine⟨_,hrd Hi emp hsi,?_⟩
  conv=>whnf
  intro b3
  conv=>whnf
  refine dec_intro (by omega) ?_
  conv=>whnf
  refine⟨_,hrd' Hi emp hsi,?_⟩
  conv=>whnf
  intro b4
  conv=>whnf
  refine (d30 l[i] m[i] (by have:=hw _ (List.getElem_mem hii);omega) _ _ _ (hwe.up hsi) (hwe'.up hsi)).val fun H1 s1=>?_
  conv=>whnf
  refine if_intro (fun hx=>?_) (fun hx=>?_)
  ·conv=>whnf
   rw[decide_eq_false fun e=>by subst e;simp at hx]
  have hx:l[i]=m[i]:=by simpa using hx
  conv=>whnf
  refine⟨(i+1,H1),⟨by dsimp only;omega,hsi.trans s1,fun q hq=>by
   rcases Nat.lt_succ_iff_lt_or_eq.1 hq with h | rfl
   ·exact hpi q h
   ·rw[List.getElem?_eq_getElem hii,List.getElem?_eq_getElem hj,hx]⟩,by dsimp only;omega,?_⟩
  refine⟨rfl,rfl,?_⟩
  conv=>whnf
  repeat (refine⟨rfl,?_⟩;conv=>whnf)
  refine⟨by show En.v (.int .i64 (IntKind.i64.wrap (i+1)))=_;rw[wrap_id (by omega) (by omega)]<;>rfl,?_⟩
  conv=>whnf
  repeat (refine⟨rfl,?_⟩;conv=>whnf)
  exact trivial
 have hii:i=l.length:=by
  have:=of_decide_eq_false hci
  omega
 subst hii
 dsimp only
 conv=>whnf
 rw[decide_eq_true (List.ext_getElem? fun q=>by
  by_cases hq:q < l.length
  ·exact hpi q hq
  ·rw[List.getElem?_eq_none (by omega),List.getElem?_eq_none (by omega)])]
theorem d22 (c d : Ct) (hc:c.fit) (H:PH) (u v:Value) (hu:CircH H u c) (hv:CircH H v d):Cl Tryz.prog 44 [u,v] H emp fun r _ _=>r=.bool ((c.wires == d.wires) && (c.bits == d.bits) && decide (c.gates=d.gates)):=by
 obtain⟨gb,gc,rfl,hg⟩:=hu.sl
 obtain⟨gb',gc',rfl,hg'⟩:=hv.sl
 refine Cl_of (pol:=polL) Γok Tryz.func44 (by kernel_rfl) rfl ?_
 conv=>whnf
 intro b1
 conv=>whnf
 intro b2
 conv=>whnf
 refine if_intro (fun h1=>?_) (fun h1=>?_)
 ·conv=>whnf
  refine if_intro (fun h2=>?_) (fun h2=>?_)
  ·conv=>whnf
   refine (d70 c.gates d.gates hc.1 hc.2 _ _ _ hg hg').val fun Ha sa=>?_
   conv=>whnf
   rw[h1,h2]
   rfl
  ·conv=>whnf
   rw[h1,h2]
   rfl
 ·conv=>whnf
  rw[h1]
  rfl
theorem IntsO.pubC {H M : PH} {v:Value} {l:List Int} (hd:Dis H M) (h:IntsO M v l):∃ H' M',Repart H M H' M'∧IntsC H' v l:=by
 obtain⟨h1,h2⟩:=h
 rcases h2 with⟨e,h⟩ | ⟨b',cap,sp,e,ho,q⟩
 ·have:l=[]:=by simpa using h
  subst this
  exact⟨H,M,.refl hd,none,0,e,by simp,none,0,e,.inl ⟨rfl,rfl⟩⟩
 ·rw[flat_oneI] at ho
  have q1:=q.1
  simp at q1 e
  refine⟨_,_,.one hd ho,_,cap,e,q1,_,cap,e,.inr ⟨b',0,_,_,_,rfl,ins_same _ _ _,?_⟩⟩
  simp
theorem c16C (l : List Int) (hlen:l.length≤100000) (H:PH) (v:Value) (hv:IntsH H v l):Cl Tryz.prog 21 [v] H emp fun r H' _=>IntsC H' r l:=
 (c16 l hlen H v hv).repart fun _ _ _ _ hd h=>by
  obtain⟨H',M',h1,h2⟩:=IntsO.pubC hd h
  exact⟨H',M',h1,h2⟩
theorem OwnS.recs {H M : PH} {sz:Nat} {t:TypeId} {v:Value} {cs:List (List Value)} (hd:Dis H M) (h:OwnS M sz t v cs):∃ H' M',Repart H M H' M'∧RecsH H' sz v cs:=by
 obtain⟨h1,h2⟩:=h
 rcases h2 with⟨e,h⟩ | ⟨b',cap,sp,e,ho,q⟩
 ·subst h
  exact⟨H,M,.refl hd,h1,none,0,e,.inl ⟨rfl,rfl⟩⟩
 ·refine⟨_,_,.one hd ho,h1,_,cap,e,.inr ⟨b',0,_,_,_,rfl,ins_same _ _ _,?_⟩⟩
  simp
def GatesC (H : PH) (gs:List Gt) (cs:List (List Value)):Prop:=cs.length=gs.length∧∀ (i:Nat) g c,gs[i]?=some g→cs[i]?=some c→GateC H g c
theorem GatesC.up {H H' : PH} {gs:List Gt} {cs:List (List Value)} (h:GatesC H gs cs) (hs:Sub H H'):GatesC H' gs cs:=⟨h.1,fun i g c a b=>(h.2 i g c a b).up hs⟩
theorem GatesC.snoc {H : PH} {gs:List Gt} {cs:List (List Value)} {g:Gt} {c:List Value} (h:GatesC H gs cs) (hc:GateC H g c):GatesC H (gs++[g]) (cs++[c]):=by
 refine⟨by simp[h.1],fun i g' c' hg hc'=>?_⟩
 rcases Nat.lt_trichotomy i gs.length with hi | hi | hi
 ·rw[List.getElem?_append_left hi] at hg
  rw[List.getElem?_append_left (by rw[h.1];exact hi)] at hc'
  exact h.2 i g' c' hg hc'
 ·subst hi
  rw[List.getElem?_append_right (Nat.le_refl _),Nat.sub_self] at hg
  rw[List.getElem?_append_right (by rw[h.1];exact Nat.le_refl _),h.1,Nat.sub_self] at hc'
  cases hg
  cases hc'
  exact hc
 ·rw[List.getElem?_eq_none (by simp;omega)] at hg
  cases hg
theorem GatesC.gates {H : PH} {gs:List Gt} {cs:List (List Value)} {v:Value} (h:GatesC H gs cs) (hr:RecsH H 4 v cs):GatesH H v gs:=⟨cs,h.1,hr,h.2⟩
def polOwn : Tmp→Pol:=fun | 30=>.imm | _=>.loc
set_option maxHeartbeats 1000000 in
theorem d10o (c : Ct) (hc:c.fit) (H:PH) (v:Value) (hv:CircH H v c):Cl Tryz.prog 38 [v] H emp fun r H' M'=>∃ w cs,r=cv c w∧OwnS M' 4 42 w cs∧GatesC H' c.gates cs:=by
 obtain⟨gb,gc,rfl,hg⟩:=hv.sl
 refine Cl_of (pol:=polOwn) Γok Tryz.func38 (by kernel_rfl) rfl ?_
 conv=>whnf
 intro b1
 conv=>whnf
 intro b2
 conv=>whnf
 intro b3
 conv=>whnf
 have hl:=hc.1
 refine W_loop (pol:=polOwn) Γok (Nat × PH × Value × PH × List (List Value)) (fun i=>i.1≤c.gates.length∧Sub H i.2.1∧OwnS i.2.2.2.1 4 42 i.2.2.1 i.2.2.2.2∧GatesC i.2.1 (c.gates.take i.1) i.2.2.2.2) (fun i=>c.gates.length - i.1) (fun i=>[(14,.v (.int .i64 i.1))]) (fun i=>[(2,[.int .i64 c.wires,.int .i64 c.bits,i.2.2.1])]) (fun i=>i.2.1) (fun i=>i.2.2.2.1) ⟨(0,H,.slice none 0 0,emp,[]),⟨by simp,Sub.refl _,⟨by simp,.inl ⟨rfl,rfl⟩⟩,⟨rfl,fun i g c h=>by simp at h⟩⟩,rfl,rfl,?_⟩ ?_
 ·conv=>whnf
  repeat (refine⟨rfl,?_⟩;conv=>whnf)
  exact trivial
 rintro ⟨i,Hi,ov,Oi,cs⟩ ⟨h1i,hsi,ho,hgc⟩
 dsimp only at h1i hsi ho hgc
 obtain⟨ob,on,oc,rfl⟩:=OwnS.sl ho
 conv=>whnf
 refine if_intro (fun hci=>?_) (fun hci=>?_)
 ·have hii:i < c.gates.length:=by
   have:=of_decide_eq_true hci
   omega
  obtain⟨b,off,w,wb,wc,rfl,hw,hrd,hwe⟩:=hg.rd hii
  subst hw
  conv=>whnf
  refine dec_intro (by omega) ?_
  conv=>whnf
  refine⟨_,hrd Hi Oi hsi,?_⟩
  conv=>whnf
  intro b5
  conv=>whnf
  refine W_draw (pol:=polOwn) Γok mixes [(0,.pend),(1,.pend),(2,.pend),(3,.pend),(4,.pendO),(5,.pendO),(7,.pend),(8,.pend),(9,.pend),(10,.pend),(6,.lock),(11,.pendO),(12,.lock),(13,.lock),(14,.pendO),(15,.lock)] 35 (by kernel_rfl) rfl ?_
  conv=>whnf
  refine (c16C c.gates[i].ws (by have:=hc.2 _ (List.getElem_mem hii);omega) _ _ (IntsH.up hwe.h hsi)).use fun w2 H1 s1 hw2=>?_
  obtain⟨_,hw2⟩:=hw2
  obtain⟨w2b,w2c,rfl,hw2l,hw2h⟩:=id hw2
  conv=>whnf
  intro b6 hb6 hO6
  conv=>whnf
  have s2:=sub_ins H1 (.cells ⟨[.int .i64 c.gates[i].kind,.slice w2b c.gates[i].ws.length w2c,.int .i64 c.gates[i].bit,.int .i64 c.gates[i].cond]⟩ 42 (0,0)) hb6
  refine append_one (xs:=cs) (y:=[.int .i64 c.gates[i].kind,.slice w2b c.gates[i].ws.length w2c,.int .i64 c.gates[i].bit,.int .i64 c.gates[i].cond]) ho rfl rfl (by intro v hv;simp at hv;rcases hv with rfl | rfl | rfl | rfl<;>rfl) ⟨_,_,_,rfl,rfl,Rd.whole (ins_same _ _ _)⟩ ?_ fun v2 O4 hO4 _=>?_
  ·rw[hgc.1,List.length_take]
   omega
  obtain⟨vb2,vn2,vc2,rfl⟩:=OwnS.sl hO4
  conv=>whnf
  refine⟨(i+1,ins H1 b6 (.cells ⟨[.int .i64 c.gates[i].kind,.slice w2b c.gates[i].ws.length w2c,.int .i64 c.gates[i].bit,.int .i64 c.gates[i].cond]⟩ 42 (0,0)),.slice vb2 vn2 vc2,O4,cs++[[.int .i64 c.gates[i].kind,.slice w2b c.gates[i].ws.length w2c,.int .i64 c.gates[i].bit,.int .i64 c.gates[i].cond]]),⟨by dsimp only;omega,hsi.trans (s1.trans s2),hO4,?_⟩,by dsimp only;omega,?_⟩
  ·dsimp only
   rw[List.take_succ_eq_append_getElem hii]
   exact (hgc.up (s1.trans s2)).snoc ⟨_,rfl,hw2.up s2⟩
  refine⟨rfl,rfl,?_⟩
  conv=>whnf
  repeat (refine⟨rfl,?_⟩;conv=>whnf)
  refine⟨by show En.v (.int .i64 (IntKind.i64.wrap (i+1)))=_;rw[wrap_id (by omega) (by omega)]<;>rfl,?_⟩
  conv=>whnf
  repeat (refine⟨rfl,?_⟩;conv=>whnf)
  exact trivial
 have hi:i=c.gates.length:=by
  have:=of_decide_eq_false hci
  omega
 subst hi
 conv=>whnf
 rw[List.take_length] at hgc
 exact⟨_,cs,rfl,ho,hgc⟩
theorem d10 (c : Ct) (hc:c.fit) (H:PH) (v:Value) (hv:CircH H v c):Cl Tryz.prog 38 [v] H emp fun r H' _=>CircH H' r c:=
 (d10o c hc H v hv).repart fun _ _ _ _ hd h=>by
  obtain⟨w,cs,rfl,ho,hgc⟩:=h
  obtain⟨H',M',rp,hr⟩:=OwnS.recs hd ho
  exact⟨H',M',rp,w,rfl,(hgc.up rp.sub).gates hr⟩
abbrev Vec : Type:=List (P4 × Int)
def sizeI (n : Nat):Int:=if n=1 then 0 else if n=2 then 1 else if n=4 then 2 else if n=8 then 3 else if n=16 then 4 else if n=32 then 5 else if n=64 then 6 else -1
theorem size_at : ∀ i:Nat,i < 7→sizeI (2 ^ i)=(i:Int):=by decide +kernel
theorem size_none {n : Nat} (h:∀ q,q < 7→n ≠ 2 ^ q):sizeI n=-1:=by
 have h0:=h 0 (by decide)
 have h1:=h 1 (by decide)
 have h2:=h 2 (by decide)
 have h3:=h 3 (by decide)
 have h4:=h 4 (by decide)
 have h5:=h 5 (by decide)
 have h6:=h 6 (by decide)
 unfold sizeI
 simp at h0 h1 h2 h3 h4 h5 h6
 simp[h0,h1,h2,h3,h4,h5,h6]
theorem size_some {n : Nat} (h:¬ sizeI n < 0):∃ q:Nat,q < 7∧n=2 ^ q∧sizeI n=q:=by
 by_cases hq:∃ q,q < 7∧n=2 ^ q
 ·obtain⟨q,h1,h2⟩:=hq
  exact⟨q,h1,h2,by rw[h2];exact size_at q h1⟩
 ·rw[size_none fun q h1 h2=>hq ⟨q,h1,h2⟩] at h
  omega
def stErr (v : Vec):Int:=if sizeI v.length < 0 then 2 else errsR v
def wiresI (v : Vec):Int × Int:=if stErr v ≠ 0 then (0,stErr v) else (sizeI v.length,0)
theorem shl_nat {a : Nat} (h:a≤60):IntKind.i64.wrap (1*2 ^ (min (a:Int).toNat IntKind.i64.bits))=((2 ^ a:Nat):Int):=shl1 h
theorem d72 (n : Nat) (H:PH):Cl Tryz.prog 58 [.int .i64 n] H emp fun r _ _=>r=.int .i64 (sizeI n):=by
 refine Cl_of (pol:=polL) Γok Tryz.func58 (by kernel_rfl) rfl ?_
 conv=>whnf
 refine W_loop (pol:=polL) Γok (Nat × PH) (fun i=>i.1≤7∧Sub H i.2∧∀ q,q < i.1→n ≠ 2 ^ q) (fun i=>7 - i.1) (fun i=>[(3,.v (.int .i64 i.1))]) (fun _=>[]) (fun i=>i.2) (fun _=>emp) ⟨(0,H),⟨by simp,Sub.refl _,fun q hq=>by omega⟩,rfl,rfl,?_⟩ ?_
 ·conv=>whnf
  repeat (refine⟨rfl,?_⟩;conv=>whnf)
  exact trivial
 rintro ⟨i,Hi⟩ ⟨h1i,hsi,hpi⟩
 dsimp only at h1i hsi hpi
 conv=>whnf
 refine if_intro (fun hci=>?_) (fun hci=>?_)
 ·have hii:i < 7:=by
   have:=of_decide_eq_true hci
   omega
  conv=>whnf
  rw[shl_nat (by omega)]
  conv=>whnf
  refine if_intro (fun hx=>?_) (fun hx=>?_)
  ·conv=>whnf
   have hx:n=2 ^ i:=by
    have:(n:Int)=((2 ^ i:Nat):Int):=by simpa using hx
    exact_mod_cast this
   rw[hx,size_at i hii]
  have hx:n ≠ 2 ^ i:=fun e=>by
   rw[e] at hx
   simp at hx
  conv=>whnf
  refine⟨(i+1,Hi),⟨by dsimp only;omega,hsi,fun q hq=>by
   rcases Nat.lt_succ_iff_lt_or_eq.1 hq with h | rfl
   ·exact hpi q h
   ·exact hx⟩,by dsimp only;omega,?_⟩
  refine⟨rfl,rfl,?_⟩
  conv=>whnf
  repeat (refine⟨rfl,?_⟩;conv=>whnf)
  refine⟨by show En.v (.int .i64 (IntKind.i64.wrap (i+1)))=_;rw[wrap_id (by omega) (by omega)]<;>rfl,?_⟩
  conv=>whnf
  repeat (refine⟨rfl,?_⟩;conv=>whnf)
  exact trivial
 have hii:i=7:=by
  have:=of_decide_eq_false hci
  omega
 subst hii
 dsimp only
 conv=>whnf
 rw[size_none hpi]
theorem d49 (v : Vec) (hlen:v.length < 9223372036854775808) (H:PH) (x:Value) (hx:NumH H x v):Cl Tryz.prog 57 [x] H emp fun r _ _=>r=.int .i64 (stErr v):=by
 obtain⟨base,cap,rfl,_⟩:=id hx
 refine Cl_of (pol:=polL) Γok Tryz.func57 (by kernel_rfl) rfl ?_
 conv=>whnf
 refine (d72 v.length _).val fun H1 s1=>?_
 conv=>whnf
 refine if_intro (fun h=>?_) (fun h=>?_)
 ·conv=>whnf
  rw[show stErr v=2 from if_pos (of_decide_eq_true h)]
 conv=>whnf
 refine (c94 v _ _ (NumH.up hx s1) hlen).val fun H2 s2=>?_
 conv=>whnf
 rw[show stErr v=errsR v from if_neg (of_decide_eq_false h)]
theorem errs_at {l : Vec} {i:Nat} (hi:i < l.length) (h:errsR (l.drop i)=errsR l) (hn:checkR l[i].1 l[i].2 ≠ 0):errsR l=checkR l[i].1 l[i].2:=by
 rw[← h,errsR_step hi,if_neg hn]
theorem errs_on {l : Vec} {i:Nat} (hi:i < l.length) (h:errsR (l.drop i)=errsR l) (hn:checkR l[i].1 l[i].2=0):errsR (l.drop (i+1))=errsR l:=by
 rw[← h,errsR_step hi,if_pos hn]
set_option maxHeartbeats 1000000 in
theorem d44 (v : Vec) (hlen:v.length < 9223372036854775808) (H:PH) (x:Value) (hx:NumH H x v):Cl Tryz.prog 65 [x] H emp fun r _ _=>r=.tuple #[.int .i64 (wiresI v).1,.int .i64 (wiresI v).2]:=by
 obtain⟨base,cap,rfl,_⟩:=id hx
 refine Cl_of (pol:=polL) Γok Tryz.func65 (by kernel_rfl) rfl ?_
 conv=>whnf
 refine W_loop (pol:=polL) Γok (Nat × PH) (fun i=>i.1≤7∧Sub H i.2∧∀ q,q < i.1→v.length ≠ 2 ^ q) (fun i=>7 - i.1) (fun i=>[(8,.v (.int .i64 i.1))]) (fun _=>[]) (fun i=>i.2) (fun _=>emp) ⟨(0,H),⟨by simp,Sub.refl _,fun q hq=>by omega⟩,rfl,rfl,?_⟩ ?_
 ·conv=>whnf
  repeat (refine⟨rfl,?_⟩;conv=>whnf)
  exact trivial
 rintro ⟨i,Hi⟩ ⟨h1i,hsi,hpi⟩
 dsimp only at h1i hsi hpi
 conv=>whnf
 refine if_intro (fun hci=>?_) (fun hci=>?_)
 ·have hii:i < 7:=by
   have:=of_decide_eq_true hci
   omega
  conv=>whnf
  rw[shl_nat (by omega)]
  conv=>whnf
  refine if_intro (fun hy=>?_) (fun hy=>?_)
  ·conv=>whnf
   have hy:v.length ≠ 2 ^ i:=fun e=>by
    rw[e] at hy
    simp at hy
   refine⟨(i+1,Hi),⟨by dsimp only;omega,hsi,fun q hq=>by
    rcases Nat.lt_succ_iff_lt_or_eq.1 hq with h | rfl
    ·exact hpi q h
    ·exact hy⟩,by dsimp only;omega,?_⟩
   refine⟨rfl,rfl,?_⟩
   conv=>whnf
   repeat (refine⟨rfl,?_⟩;conv=>whnf)
   refine⟨by show En.v (.int .i64 (IntKind.i64.wrap (i+1)))=_;rw[wrap_id (by omega) (by omega)]<;>rfl,?_⟩
   conv=>whnf
   repeat (refine⟨rfl,?_⟩;conv=>whnf)
   exact trivial
  have hy:v.length=2 ^ i:=by
   have:(v.length:Int)=((2 ^ i:Nat):Int):=by simpa using hy
   exact_mod_cast this
  have hsz:sizeI v.length=i:=by rw[hy];exact size_at i hii
  conv=>whnf
  refine W_loop (pol:=polL) Γok (Nat × PH) (fun i=>i.1≤v.length∧Sub Hi i.2∧errsR (v.drop i.1)=errsR v) (fun i=>v.length - i.1) (fun i=>[(18,.v (.int .i64 i.1))]) (fun _=>[]) (fun i=>i.2) (fun _=>emp) ⟨(0,Hi),⟨by simp,Sub.refl _,rfl⟩,rfl,rfl,?_⟩ ?_
  ·conv=>whnf
   repeat (refine⟨rfl,?_⟩;conv=>whnf)
   exact trivial
  rintro ⟨j,Hj⟩ ⟨h1j,hsj,hpj⟩
  dsimp only at h1j hsj hpj
  conv=>whnf
  refine if_intro (fun hcj=>?_) (fun hcj=>?_)
  ·have hij:j < v.length:=by
    have:=of_decide_eq_true hcj
    omega
   conv=>whnf
   obtain⟨_,b,off,rfl,hrd⟩:=(NumH.up hx (hsi.trans hsj)).rd (O:=emp) hij
   conv=>whnf
   refine dec_intro (by omega) ?_
   conv=>whnf
   refine⟨_,hrd,?_⟩
   conv=>whnf
   intro b6
   conv=>whnf
   refine (c93 v[j].1 v[j].2 _).val fun H1 s1=>?_
   rw[checkF_checkR]
   conv=>whnf
   refine if_intro (fun h=>?_) (fun h=>?_)
   ·conv=>whnf
    have e:=errs_at hij hpj (by simpa using h)
    have h2:stErr v=checkR v[j].1 v[j].2:=by
     unfold stErr
     rw[if_neg (by omega),e]
    rw[show wiresI v=(0,checkR v[j].1 v[j].2) by unfold wiresI;rw[h2,if_pos (by simpa using h)]]
   conv=>whnf
   refine⟨(j+1,H1),⟨by dsimp only;omega,hsj.trans s1,errs_on hij hpj (by simpa using h)⟩,by dsimp only;omega,?_⟩
   refine⟨rfl,rfl,?_⟩
   conv=>whnf
   repeat (refine⟨rfl,?_⟩;conv=>whnf)
   refine⟨by show En.v (.int .i64 (IntKind.i64.wrap (j+1)))=_;rw[wrap_id (by omega) (by omega)]<;>rfl,?_⟩
   conv=>whnf
   repeat (refine⟨rfl,?_⟩;conv=>whnf)
   exact trivial
  have hij:j=v.length:=by
   have:=of_decide_eq_false hcj
   omega
  subst hij
  dsimp only
  conv=>whnf
  have e:errsR v=0:=by rw[← hpj,List.drop_length]<;>rfl
  have h2:stErr v=0:=by
   unfold stErr
   rw[if_neg (by omega),e]
  rw[show wiresI v=(sizeI v.length,0) by unfold wiresI;rw[h2,if_neg (by simp)],hsz]
 have hii:i=7:=by
  have:=of_decide_eq_false hci
  omega
 subst hii
 dsimp only
 conv=>whnf
 have h2:stErr v=2:=by
  unfold stErr
  rw[size_none hpi,if_pos (by decide)]
 rw[show wiresI v=(0,2) by unfold wiresI;rw[h2,if_pos (by simp)]]
def OutVH (H : PH) (r:Value) (x:Vec × Int):Prop:=∃ u,r=.tuple #[u,.int .i64 x.2]∧NumH H u x.1
def OutVO (M : PH) (r:Value) (x:Vec × Int):Prop:=∃ u,r=.tuple #[u,.int .i64 x.2]∧NumO M u x.1
theorem OutVH.up {H H' : PH} {r:Value} {x:Vec × Int} (h:OutVH H r x) (hs:Sub H H'):OutVH H' r x:=by
 obtain⟨u,e,h⟩:=h
 exact⟨u,e,NumH.up h hs⟩
theorem nilV (H : PH):NumH H (.slice none 0 0) []:=⟨none,0,rfl,.inl ⟨rfl,rfl⟩⟩
theorem nilVO (O : PH):NumO O (.slice none 0 0) []:=⟨by simp,.inl ⟨rfl,rfl⟩⟩
theorem OutVO.bad {M : PH} {e:Int}:OutVO M (.tuple #[.slice none 0 0,.int .i64 e]) ([],e):=⟨_,rfl,nilVO M⟩
theorem OutVH.bad {M : PH} {e:Int}:OutVH M (.tuple #[.slice none 0 0,.int .i64 e]) ([],e):=⟨_,rfl,nilV M⟩
theorem zeros_flat (w : Nat):(List.replicate w [Value.int .i64 0,.int .i64 0,.int .i64 0,.int .i64 0,.int .i64 0]).flatten=cellsN (zeros w):=by
 unfold cellsN zeros
 rw[List.map_replicate]
 rfl
theorem OwnS.nums {H M : PH} {v:Value} {l:Vec} (hd:Dis H M) (h:NumO M v l):∃ H' M',Repart H M H' M'∧NumH H' v l:=NumO.pub hd h
theorem tb_add : ∀ j,j < 6→∀ x,x < 2 ^ j→∀ i,i < 6→(x+2 ^ j).testBit i=(decide (i=j) || x.testBit i):=by decide +kernel
theorem cl_self : ∀ k,k < 64→∀ w,w < 6→(clB k w).testBit w=false:=by decide +kernel
theorem spl_b1 (wn : Nat→Nat) (hw:∀ j,wn j < 6):∀ j k,j≤6→k < 64→(∀ a b,a < b→b < j→wn a ≠ wn b)→∀ i,i < 6→(spl wn j k).1.testBit i=(decide (i < j) && k.testBit (wn i))
 | 0,k,_,_,_,i,_=>by simp[spl]
 | j+1,k,hj,hk,hd,i,hi=>by
  have ih:=spl_b1 wn hw j k (by omega) hk (fun a b h1 h2=>hd a b h1 (by omega)) i hi
  have hb:=spl_bit wn hw (hw j) j k hk fun a ha=>hd a j ha (by omega)
  have hlt:=(spl_lt wn hw j k hk).1
  rw[spl_succ wn hw j k hk fun a ha=>hd a j ha (by omega),hb]
  dsimp only
  by_cases hij:i=j
  ·subst hij
   cases e:k.testBit (wn i) with
   | true=>
    rw[if_pos rfl,tb_add i (by omega) _ hlt i hi]
    simp
   | false=>
    rw[if_neg (by simp),Nat.add_zero,ih]
    simp
  ·have e1:decide (i < j+1)=decide (i < j):=decide_eq_decide.2 (by omega)
   rw[e1,← ih]
   cases k.testBit (wn j) with
   | true=>
    rw[if_pos rfl,tb_add j (by omega) _ hlt i hi,decide_eq_false hij]
    simp
   | false=>rw[if_neg (by simp),Nat.add_zero]
theorem spl_b2 (wn : Nat→Nat) (hw:∀ j,wn j < 6):∀ j k,k < 64→(∀ a b,a < b→b < j→wn a ≠ wn b)→∀ p,p < 6→(spl wn j k).2.testBit p=(k.testBit p && (List.range j).all fun a=>!(wn a == p))
 | 0,k,_,_,p,_=>by simp[spl]
 | j+1,k,hk,hd,p,hp=>by
  have ih:=spl_b2 wn hw j k hk (fun a b h1 h2=>hd a b h1 (by omega)) p hp
  have hlt:=(spl_lt wn hw j k hk).2
  rw[spl_succ wn hw j k hk fun a ha=>hd a j ha (by omega)]
  dsimp only
  rw[List.range_succ,List.all_append]
  by_cases h:wn j=p
  ·subst h
   rw[cl_self _ hlt _ hp]
   simp
  ·rw[clB_bit _ hlt _ (hw j) p hp (fun e=>h e.symm),ih]
   have:(wn j == p)=false:=by simpa using h
   simp[this]
def cmbN (wn : Nat→Nat) (c:Nat):Nat→Nat→Nat
 | 0,r=>r
 | j+1,r=>cmbN wn c j r ||| (if c.testBit j then 2 ^ wn j else 0)
theorem cmb_b (wn : Nat→Nat) (c:Nat):∀ j r p,(cmbN wn c j r).testBit p=(r.testBit p || (List.range j).any fun a=>wn a == p && c.testBit a)
 | 0,r,p=>by simp[cmbN]
 | j+1,r,p=>by
  unfold cmbN
  rw[Nat.testBit_or,cmb_b wn c j r p,List.range_succ,List.any_append]
  cases h:c.testBit j with
  | true=>
   rw[if_pos rfl,Nat.testBit_two_pow]
   simp[h,Bool.or_assoc]
   rfl
  | false=>simp[h]
theorem cmb_lt (wn : Nat→Nat) (c:Nat) {n:Nat}:∀ j r,r < 2 ^ n→(∀ a,a < j→wn a < n)→cmbN wn c j r < 2 ^ n
 | 0,r,hr,_=>hr
 | j+1,r,hr,hw=>by
  unfold cmbN
  refine Nat.or_lt_two_pow (cmb_lt wn c j r hr fun a ha=>hw a (by omega)) ?_
  split
  ·exact Nat.pow_lt_pow_right (by decide) (hw j (by omega))
  ·exact Nat.pow_pos (by decide)
theorem bits_eq {x y n : Nat} (hx:x < 2 ^ n) (hy:y < 2 ^ n) (h:∀ p,p < n→x.testBit p=y.testBit p):x=y:=by
 apply Nat.eq_of_testBit_eq
 intro p
 by_cases hp:p < n
 ·exact h p hp
 ·have hl:2 ^ n≤2 ^ p:=Nat.pow_le_pow_right (by decide) (by omega)
  rw[Nat.testBit_lt_two_pow (by omega),Nat.testBit_lt_two_pow (by omega)]
theorem any_one {j i : Nat} (wn:Nat→Nat) (c:Nat) (hi:i < j) (hd:∀ a b,a < b→b < j→wn a ≠ wn b):((List.range j).any fun a=>wn a == wn i && c.testBit a)=c.testBit i:=by
 apply Bool.eq_iff_iff.2
 rw[List.any_eq_true]
 constructor
 ·rintro ⟨a,ha,h⟩
  rw[Bool.and_eq_true] at h
  have ha:=List.mem_range.1 ha
  have e:wn a=wn i:=by simpa using h.1
  have:a=i:=by
   rcases Nat.lt_trichotomy a i with q | q | q
   ·exact absurd e (hd a i q hi)
   ·exact q
   ·exact absurd e.symm (hd i a q ha)
  rw[← this]
  exact h.2
 ·intro h
  exact⟨i,List.mem_range.2 hi,by simp[h]⟩
theorem cmb_spl (wn : Nat→Nat) (hw:∀ j,wn j < 6) {j:Nat} (hj:j≤6) (hd:∀ a b,a < b→b < j→wn a ≠ wn b) {b:Nat} (hb:b < 64):cmbN wn (spl wn j b).1 j (spl wn j b).2=b:=by
 refine bits_eq (n:=6) (cmb_lt wn _ j _ (spl_lt wn hw j b hb).2 fun a _=>hw a) hb fun p hp=>?_
 rw[cmb_b,spl_b2 wn hw j b hb hd p hp]
 by_cases h:∃ i,i < j∧wn i=p
 ·obtain⟨i,hi,rfl⟩:=h
  rw[any_one wn _ hi hd,spl_b1 wn hw j b hj hb hd i (by omega),decide_eq_true hi]
  have:((List.range j).all fun a=>!(wn a == wn i))=false:=List.all_eq_false.2 ⟨i,List.mem_range.2 hi,by simp⟩
  rw[this]
  simp
 ·have h1:((List.range j).all fun a=>!(wn a == p))=true:=List.all_eq_true.2 fun a ha=>by
   have:¬ wn a=p:=fun e=>h ⟨a,List.mem_range.1 ha,e⟩
   simpa using this
  have h2:((List.range j).any fun a=>wn a == p && (spl wn j b).1.testBit a)=false:=List.any_eq_false.2 fun a ha=>by
   have:¬ wn a=p:=fun e=>h ⟨a,List.mem_range.1 ha,e⟩
   simp[this]
  rw[h1,h2]
  simp
theorem spl_cmb (wn : Nat→Nat) (hw:∀ j,wn j < 6) {j:Nat} (hj:j≤6) (hd:∀ a b,a < b→b < j→wn a ≠ wn b) {r c:Nat} (hr:r < 64) (hc:c < 2 ^ j) (hz:∀ a,a < j→r.testBit (wn a)=false):spl wn j (cmbN wn c j r)=(c,r):=by
 have hlt:cmbN wn c j r < 64:=cmb_lt wn c (n:=6) j r hr fun a _=>hw a
 obtain⟨l1,l2⟩:=spl_lt wn hw j _ hlt
 have p6:2 ^ j≤2 ^ 6:=Nat.pow_le_pow_right (by decide) hj
 refine Prod.ext (bits_eq (n:=6) (by omega) (by omega) fun i hi=>?_) (bits_eq (n:=6) l2 hr fun p hp=>?_)
 ·rw[spl_b1 wn hw j _ hj hlt hd i hi]
  by_cases hij:i < j
  ·rw[decide_eq_true hij,cmb_b,hz i hij,any_one wn c hij hd]
   simp
  ·rw[decide_eq_false hij]
   have hl:2 ^ j≤2 ^ i:=Nat.pow_le_pow_right (by decide) (by omega)
   rw[Nat.testBit_lt_two_pow (show c < 2 ^ i by omega)]
   rfl
 ·rw[spl_b2 wn hw j _ hlt hd p hp,cmb_b]
  by_cases h:∃ i,i < j∧wn i=p
  ·obtain⟨i,hi,rfl⟩:=h
   have:((List.range j).all fun a=>!(wn a == wn i))=false:=List.all_eq_false.2 ⟨i,List.mem_range.2 hi,by simp⟩
   rw[this,hz i hi]
   simp
  ·have h1:((List.range j).all fun a=>!(wn a == p))=true:=List.all_eq_true.2 fun a ha=>by
    have:¬ wn a=p:=fun e=>h ⟨a,List.mem_range.1 ha,e⟩
    simpa using this
   have h2:((List.range j).any fun a=>wn a == p && c.testBit a)=false:=List.any_eq_false.2 fun a ha=>by
    have:¬ wn a=p:=fun e=>h ⟨a,List.mem_range.1 ha,e⟩
    simp[this]
   rw[h1,h2]
   simp
theorem spl_clear (wn : Nat→Nat) (hw:∀ j,wn j < 6) {j:Nat} (hd:∀ a b,a < b→b < j→wn a ≠ wn b) {b:Nat} (hb:b < 64):∀ a,a < j→(spl wn j b).2.testBit (wn a)=false:=fun a ha=>by
 rw[spl_b2 wn hw j b hb hd _ (hw a)]
 have:((List.range j).all fun q=>!(wn q == wn a))=false:=List.all_eq_false.2 ⟨a,List.mem_range.2 ha,by simp⟩
 rw[this]
 simp
theorem spl_le (wn : Nat→Nat) (hw:∀ j,wn j < 6) {j:Nat} (hd:∀ a b,a < b→b < j→wn a ≠ wn b) {b n:Nat} (hn:n≤6) (hb:b < 2 ^ n):(spl wn j b).2 < 2 ^ n:=by
 have h6:2 ^ n≤2 ^ 6:=Nat.pow_le_pow_right (by decide) hn
 have hl:=(spl_lt wn hw j b (by omega)).2
 apply Nat.lt_of_not_le
 intro hge
 obtain⟨p,hp1,hp2⟩:=Nat.exists_ge_and_testBit_of_ge_two_pow hge
 by_cases hp:p < 6
 ·rw[spl_b2 wn hw j b (by omega) hd p hp] at hp2
  have hlp:2 ^ n≤2 ^ p:=Nat.pow_le_pow_right (by decide) hp1
  rw[Nat.testBit_lt_two_pow (show b < 2 ^ p by omega)] at hp2
  simp at hp2
 ·have hlp:2 ^ 6≤2 ^ p:=Nat.pow_le_pow_right (by decide) (by omega)
  rw[Nat.testBit_lt_two_pow (show _ < 2 ^ p by omega)] at hp2
  cases hp2
theorem filter_none {p : Nat→Bool}:∀ N,(∀ y,y < N→p y=false)→(List.range N).filter p=[]
 | 0,_=>rfl
 | N+1,h=>by
  rw[List.range_succ,List.filter_append,filter_none N fun y hy=>h y (by omega)]
  simp[h N (by omega)]
theorem filter_one {p : Nat→Bool} {x:Nat}:∀ N,x < N→p x=true→(∀ y,y < N→p y=true→y=x)→(List.range N).filter p=[x]
 | 0,h,_,_=>absurd h (by omega)
 | N+1,h,hx,hu=>by
  rw[List.range_succ,List.filter_append]
  by_cases e:x=N
  ·subst e
   rw[filter_none x fun y hy=>by
    cases q:p y with
    | false=>rfl
    | true=>have:=hu y (by omega) q;omega]
   simp[hx]
  ·rw[filter_one N (by omega) hx fun y hy=>hu y (by omega)]
   have:p N=false:=by
    cases q:p N with
    | false=>rfl
    | true=>have:=hu N (by omega) q;omega
   simp[this]
theorem filter_two {p : Nat→Bool} {x z:Nat} (hxz:x < z):∀ N,z < N→p x=true→p z=true→(∀ y,y < N→p y=true→y=x∨y=z)→(List.range N).filter p=[x,z]
 | 0,h,_,_,_=>absurd h (by omega)
 | N+1,h,hx,hz,hu=>by
  rw[List.range_succ,List.filter_append]
  by_cases e:z=N
  ·subst e
   rw[filter_one z hxz hx fun y hy q=>by
    rcases hu y (by omega) q with h | h<;>omega]
   simp[hz]
  ·rw[filter_two hxz N (by omega) hx hz fun y hy=>hu y (by omega)]
   have:p N=false:=by
    cases q:p N with
    | false=>rfl
    | true=>rcases hu N (by omega) q with h | h<;>omega
   simp[this]
end Go.Proofs.YtodmckckapmmoaaGreatDoor
