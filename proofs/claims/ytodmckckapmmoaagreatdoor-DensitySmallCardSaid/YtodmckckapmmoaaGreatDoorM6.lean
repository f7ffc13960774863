/- A logic for code of the model, proved sound, and what functions do that the laws on matrices come to; nothing is asked. Part 6. -/
import Derived.Test.YtodmckckapmmoaaGreatDoorM5
set_option linter.unusedVariables false
set_option linter.unusedSimpArgs false
set_option linter.unnecessarySimpa false
namespace Go.Proofs.YtodmckckapmmoaaGreatDoor
open Go.Proofs.YtodmckckapmmoaaGreatDoor.X Go.Proofs.YtodmckckapmmoaaGreatDoor.X.PH
set_option maxRecDepth 100000
abbrev Pr : Type:=(P4 × Int) × (P4 × Int)
def stepP (s : ((P4 × Int) × Int) × Bool) (p:Pr):((P4 × Int) × Int) × Bool:=if s.1.2=0 then (dotStepR s.1.1 p.1 s.2 p.2,false) else s
def foldP (L : List Pr):((P4 × Int) × Int) × Bool:=L.foldl stepP (((P4.zero,0),0),true)
def dotP (L : List Pr):(P4 × Int) × Int:=(foldP L).1
def nzB (m : Mx) (i c:Nat):Bool:=!eqN (entry m i c) (P4.zero,0)
def colsL (m : Mx) (i n:Nat):List Nat:=(List.range n).filter (nzB m i)
def vAt (v : Vec) (b:Nat):P4 × Int:=v.getD b (P4.zero,0)
def rowL (m : Mx) (wn:Nat→Nat) (j:Nat) (v:Vec) (a n:Nat):List Pr:=(colsL m (spl wn j a).1 n).map fun c=>(entry m (spl wn j a).1 c,vAt v (cmbN wn c j (spl wn j a).2))
def refB (m : Mx) (wn:Nat→Nat) (j:Nat) (a b:Nat):Bool:=((spl wn j a).2 == (spl wn j b).2) && nzB m (spl wn j a).1 (spl wn j b).1
def refL (m : Mx) (wn:Nat→Nat) (j:Nat) (v:Vec) (a n:Nat):List Pr:=((List.range n).filter (refB m wn j a)).map fun b=>(entry m (spl wn j a).1 (spl wn j b).1,vAt v b)
def arN (k : Nat):Nat:=(arityF k).toNat
def supOk (k : Nat):Bool:=(List.range (2 ^ arN k)).all fun i=>match colsL (opM k) i (2 ^ arN k) with
 | [_]=>true
 | [0,1]=>Nat.beq (arN k) 1
 | _=>false
theorem sup_all : ∀ k,k < 13→1≤k→supOk k=true:=by decide +kernel
theorem sup_get {k : Nat} (h1:1≤k) (h2:k≤12) {i:Nat} (hi:i < 2 ^ arN k):(∃ c,colsL (opM k) i (2 ^ arN k)=[c])∨(arN k=1∧colsL (opM k) i (2 ^ arN k)=[0,1]):=by
 have h:=List.all_eq_true.1 (sup_all k (by omega) h1) i (List.mem_range.2 hi)
 split at h
 ·rename_i c e
  exact .inl ⟨c,e⟩
 ·rename_i e
  exact .inr ⟨Nat.eq_of_beq_eq_true h,e⟩
 ·cases h
theorem rows_same {k : Nat} (h1:1≤k) (h2:k≤12) (wn:Nat→Nat) (hw:∀ j,wn j < 6) (hd:∀ a b,a < b→b < arN k→wn a ≠ wn b) {n:Nat} (hn:n≤6) (hwn:∀ a,a < arN k→wn a < n) (hj:arN k≤6) (v:Vec) {a:Nat} (ha:a < 2 ^ n) :
 refL (opM k) wn (arN k) v a (2 ^ n)=rowL (opM k) wn (arN k) v a (2 ^ arN k):=by
 have h6:2 ^ n≤2 ^ 6:=Nat.pow_le_pow_right (by decide) hn
 obtain⟨hi,hr⟩:=spl_lt wn hw (arN k) a (by omega)
 have hrn:=spl_le wn hw hd hn ha
 have hz:=spl_clear wn hw hd (show a < 64 by omega)
 have hc:=fun {c:Nat} (h:c < 2 ^ arN k)=>spl_cmb wn hw hj hd hr h hz
 have hcn:=fun (c:Nat)=>cmb_lt wn c (arN k) _ hrn hwn
 have hu:∀ y,y < 2 ^ n→refB (opM k) wn (arN k) a y=true→(spl wn (arN k) y).1∈colsL (opM k) (spl wn (arN k) a).1 (2 ^ arN k)∧y=cmbN wn (spl wn (arN k) y).1 (arN k) (spl wn (arN k) a).2:=by
  intro y hy hb
  unfold refB at hb
  rw[Bool.and_eq_true] at hb
  have e:(spl wn (arN k) a).2=(spl wn (arN k) y).2:=by simpa using hb.1
  refine⟨List.mem_filter.2 ⟨List.mem_range.2 (spl_lt wn hw (arN k) y (by omega)).1,hb.2⟩,?_⟩
  rw[e]
  exact (cmb_spl wn hw hj hd (by omega)).symm
 have hp:∀ c,c∈colsL (opM k) (spl wn (arN k) a).1 (2 ^ arN k)→refB (opM k) wn (arN k) a (cmbN wn c (arN k) (spl wn (arN k) a).2)=true∧spl wn (arN k) (cmbN wn c (arN k) (spl wn (arN k) a).2)=(c,(spl wn (arN k) a).2):=by
  intro c hm
  obtain⟨m1,m2⟩:=List.mem_filter.1 hm
  have e:=hc (List.mem_range.1 m1)
  refine⟨?_,e⟩
  unfold refB
  rw[e]
  simpa using m2
 unfold refL rowL
 rcases sup_get h1 h2 hi with⟨c,e⟩ | ⟨e1,e⟩
 ·obtain⟨p1,p2⟩:=hp c (by rw[e];simp)
  rw[filter_one (x:=cmbN wn c (arN k) (spl wn (arN k) a).2) (2 ^ n) (hcn c) p1 fun y hy hb=>?_,e]
  ·simp only[List.map_cons,List.map_nil]
   rw[p2]
  ·obtain⟨q1,q2⟩:=hu y hy hb
   rw[e] at q1
   simp at q1
   rw[q1] at q2
   exact q2
 ·obtain⟨p1,p2⟩:=hp 0 (by rw[e];simp)
  obtain⟨r1,r2⟩:=hp 1 (by rw[e];simp)
  have hlt:cmbN wn 0 (arN k) (spl wn (arN k) a).2 < cmbN wn 1 (arN k) (spl wn (arN k) a).2:=by
   rcases Nat.lt_or_eq_of_le (show cmbN wn 0 (arN k) (spl wn (arN k) a).2≤cmbN wn 1 (arN k) (spl wn (arN k) a).2 by
    rw[e1]
    show (spl wn 1 a).2 ||| (if Nat.testBit 0 0=true then 2 ^ wn 0 else 0)≤(spl wn 1 a).2 ||| (if Nat.testBit 1 0=true then 2 ^ wn 0 else 0)
    rw[if_neg (by decide),Nat.or_zero]
    exact Nat.left_le_or) with h | h
   ·exact h
   ·rw[h,r2] at p2
    cases p2
  rw[filter_two hlt (2 ^ n) (hcn 1) p1 r1 fun y hy hb=>?_,e]
  ·simp only[List.map_cons,List.map_nil]
   rw[p2,r2]
  ·obtain⟨q1,q2⟩:=hu y hy hb
   rw[e] at q1
   simp at q1
   rcases q1 with q1 | q1
   ·rw[q1] at q2;exact .inl q2
   ·rw[q1] at q2;exact .inr q2
def gwn (g : Gt):Nat→Nat:=fun j=>(g.ws.getD j 0).toNat
def gM (g : Gt):Mx:=opM g.kind.toNat
def rowG (v : Vec) (g:Gt) (a:Nat):(P4 × Int) × Int:=dotP (rowL (gM g) (gwn g) g.ws.length v a (2 ^ g.ws.length))
def gErr (g : Gt) (n:Int):Int:=if g.kind < 1∨g.kind > 12 then 3 else if (g.ws.length:Int) ≠ arityF g.kind then 2 else placesR g.ws n
structure GateOK (g : Gt) (n:Nat):Prop where
 n6:n≤6
 k1:1≤g.kind
 k2:g.kind≤12
 len:(g.ws.length:Int)=arityF g.kind
 inA:g.ws.all (inW n)=true
 tw:twiceF g.ws=false
theorem GateOK.ar {g : Gt} {n:Nat} (h:GateOK g n):arN g.kind.toNat=g.ws.length∧g.ws.length≤3:=by
 have:=arityF_range g.kind
 have h1:=h.len
 have h2:=h.k1
 unfold arN
 rw[show ((g.kind.toNat:Nat):Int)=g.kind by omega]
 omega
theorem GateOK.wn {g : Gt} {n:Nat} (h:GateOK g n):(∀ j,gwn g j < 6)∧(∀ j,j < g.ws.length→gwn g j < n∧g.ws.getD j 0=(gwn g j:Int))∧∀ a b,a < b→b < g.ws.length→gwn g a ≠ gwn g b:=by
 have hn:=h.n6
 have hin:∀ j,j < g.ws.length→0≤g.ws.getD j 0∧g.ws.getD j 0 < n:=fun j hj=>by
  have:=List.all_eq_true.1 h.inA g.ws[j] (List.getElem_mem hj)
  unfold inW at this
  rw[List.getD_eq_getElem?_getD,List.getElem?_eq_getElem hj]
  simpa using this
 have h2:∀ j,j < g.ws.length→gwn g j < n∧g.ws.getD j 0=(gwn g j:Int):=fun j hj=>by
  have:=hin j hj
  unfold gwn
  omega
 refine⟨fun j=>?_,h2,fun a b hab hb e=>?_⟩
 ·by_cases hj:j < g.ws.length
  ·have:=(h2 j hj).1
   omega
  ·unfold gwn
   rw[List.getD_eq_getElem?_getD,List.getElem?_eq_none (by omega)]
   decide
 ·have h3:=h.tw
  have e1:g.ws[a]'(by omega)=g.ws[b]:=by
   have ea:=(h2 a (by omega)).2
   have eb:=(h2 b hb).2
   rw[List.getD_eq_getElem?_getD,List.getElem?_eq_getElem (show a < g.ws.length by omega)] at ea
   rw[List.getD_eq_getElem?_getD,List.getElem?_eq_getElem hb] at eb
   simp only[Option.getD_some] at ea eb
   rw[ea,eb,e]
  have:twiceF g.ws=true:=by
   refine twice_true hb ?_
   rw[List.contains_iff_mem,← e1]
   exact List.mem_take_iff_getElem.2 ⟨a,by omega,rfl⟩
  rw[h3] at this
  cases this
theorem GateOK.split {g : Gt} {n:Nat} (h:GateOK g n) {k:Nat} (hk:k < 64):takenF g.ws k g.ws.length=(((spl (gwn g) g.ws.length k).1:Int),((spl (gwn g) g.ws.length k).2:Int)):=by
 obtain⟨w1,w2,w3⟩:=h.wn
 have:=h.ar
 exact taken_spl g.ws (gwn g) w1 k hk g.ws.length (by omega) (fun i hi=>(w2 i hi).2) w3
theorem GateOK.row {g : Gt} {n:Nat} (h:GateOK g n) (v:Vec) (hv:v.length=2 ^ n) {a:Nat} (ha:a < v.length):dotP (refL (gM g) (gwn g) g.ws.length v a v.length)=rowG v g a:=by
 obtain⟨w1,w2,w3⟩:=h.wn
 obtain⟨a1,a2⟩:=h.ar
 have k1:=h.k1
 have k2:=h.k2
 unfold rowG gM
 rw[hv,← a1]
 rw[← a1] at w2 w3
 rw[rows_same (by omega) (by omega) (gwn g) w1 w3 h.n6 (fun a ha=>(w2 a ha).1) (by omega) v (by omega)]
theorem MatH.cell {H : PH} {base:Option Addr} {n cap:Nat} {m:Mx} (h:MatH H (.slice base n cap) m) {i k:Nat} (hi:i < m.length) (hk:k < m[i].length) :
 ∃ b off b' off' cap',base=some ⟨b,off,none⟩∧(∀ H' O,Sub H H'→Rd H' O ⟨b,off+i*1,none⟩ 1 [.slice (some ⟨b',off',none⟩) m[i].length cap'])∧∀ H' O,Sub H H'→Rd H' O ⟨b',off'+k*5,none⟩ 5 (cellsOf m[i][k]):=by
 obtain⟨b,off,base',cap',h1,h2,h3⟩:=MatH.at h hi
 obtain⟨b',off',h4,h5⟩:=NumH.at h3 hk
 subst h4
 exact⟨b,off,b',off',cap',h1,h2,h5⟩
theorem opM_dims : ∀ k,k < 13→1≤k→(opM k).length=2 ^ arN k∧(opM k).all (fun r=>r.length == 2 ^ arN k)=true:=by decide +kernel
theorem GateOK.of {g : Gt} {n:Nat} (h:GateOK g n):OfR g.kind=(gM g,0):=if_pos ⟨h.k1,h.k2⟩
theorem OwnA.up {O O' : PH} {sz:Nat} {t:TypeId} {v:Value} {xs:List (List Value)} {ob:Option Nat} (h:OwnA O sz t v xs ob) (hs:Sub O O'):OwnA O' sz t v xs ob:=h.keep (oc:=none) (fun n o hn _=>hs n o hn) (Ap.none_l _)
def VecA (O : PH) (v:Value) (l:Vec) (ob:Option Nat):Prop:=OwnA O 5 25 v (l.map cellsOf) ob
theorem VecA.num {O : PH} {v:Value} {l:Vec} {ob:Option Nat} (h:VecA O v l ob):NumO O v l:=OwnA.own h
theorem VecA.sl {O : PH} {v:Value} {l:Vec} {ob:Option Nat} (h:VecA O v l ob):∃ base cap,v=.slice base l.length cap:=by
 obtain⟨b,c,e⟩:=OwnA.sl h
 rw[List.length_map] at e
 exact⟨b,c,e⟩
theorem d71 (g : Gt) (n:Int) (hl:g.ws.length < 1000000) (H:PH) (w:Value) (hw:IntsC H w g.ws):Cl Tryz.prog 76 [gv g w,.int .i64 n] H emp fun r _ _=>r=.int .i64 (gErr g n):=by
 obtain⟨wb,wc,rfl,hwc,hw⟩:=hw
 refine Cl_of (pol:=polL) Γok Tryz.func76 (by kernel_rfl) rfl ?_
 conv=>whnf
 intro b1
 conv=>whnf
 refine if_intro (fun h1=>?_) (fun h1=>?_)
 ·conv=>whnf
  rw[show gErr g n=3 from if_pos (.inl (of_decide_eq_true h1))]
 conv=>whnf
 refine if_intro (fun h2=>?_) (fun h2=>?_)
 ·conv=>whnf
  rw[show gErr g n=3 from if_pos (.inr (of_decide_eq_true h2))]
 have h12:¬ (g.kind < 1∨g.kind > 12):=fun h=>h.elim (of_decide_eq_false h1) (of_decide_eq_false h2)
 conv=>whnf
 refine W_draw (pol:=polL) Γok mixes [(0,.pend),(1,.pend),(2,.pend),(3,.pendO),(4,.pendO),(5,.lock),(6,.pendO)] 24 (by kernel_rfl) rfl ?_
 conv=>whnf
 refine (d112 g.kind _).val fun Ha sa=>?_
 conv=>whnf
 refine if_intro (fun h3=>?_) (fun h3=>?_)
 ·conv=>whnf
  rw[show gErr g n=2 by unfold gErr;rw[if_neg h12,if_pos (by simpa using h3)]]
 conv=>whnf
 refine (c70 g.ws n hl _ _ (IntsH.up hw sa)).val fun Hb sb=>?_
 conv=>whnf
 rw[show gErr g n=placesR g.ws n by unfold gErr;rw[if_neg h12,if_neg (by simpa using h3)]]
theorem bit_cond {i w : Nat} (hi:i < 64) (hw:w < 6):andI (shrI (i:Int) (w:Int)) 1=if i.testBit w then 1 else 0:=bit_shr i hi w hw
def isM (g : Gt):Bool:=(g.kind == 13) || (g.kind == 14)
def foundN (l : List Gt):Nat:=(l.filter isM).length
theorem foundN_snoc {l : List Gt} {i:Nat} (hi:i < l.length):foundN (l.take (i+1))=foundN (l.take i)+if isM l[i]=true then 1 else 0:=by
 unfold foundN
 rw[List.take_succ_eq_append_getElem hi,List.filter_append,List.length_append]
 by_cases h:isM l[i]=true
 ·simp[h]
 ·simp[h]
theorem foundN_le (l : List Gt) (i:Nat):foundN (l.take i)≤i:=by
 unfold foundN
 refine Nat.le_trans (List.length_filter_le _ _) ?_
 rw[List.length_take]
 omega
theorem d57 (c : Ct) (hc:c.fit) (H:PH) (x:Value) (hx:CircH H x c):Cl Tryz.prog 96 [x] H emp fun r _ _=>r=.int .i64 (foundN c.gates):=by
 obtain⟨gb,gc,rfl,hg⟩:=hx.sl
 have hlen:=hc.1
 refine Cl_of (pol:=polL) Γok Tryz.func96 (by kernel_rfl) rfl ?_
 conv=>whnf
 intro b1
 conv=>whnf
 refine W_loop (pol:=polL) Γok (Nat × PH) (fun i=>i.1≤c.gates.length∧Sub H i.2) (fun i=>c.gates.length - i.1) (fun i=>[(3,.v (.int .i64 (foundN (c.gates.take i.1)))),(4,.v (.int .i64 i.1))]) (fun _=>[]) (fun i=>i.2) (fun _=>emp) ⟨(0,H),⟨by simp,Sub.refl _⟩,rfl,rfl,?_⟩ ?_
 ·conv=>whnf
  repeat (refine⟨rfl,?_⟩;conv=>whnf)
  exact trivial
 rintro ⟨i,Hi⟩ ⟨h1i,hsi⟩
 dsimp only at h1i hsi
 conv=>whnf
 refine if_intro (fun hci=>?_) (fun hci=>?_)
 ·have hii:i < c.gates.length:=by
   have:=of_decide_eq_true hci
   omega
  have hle:=foundN_le c.gates i
  obtain⟨b,off,w,wb,wc,rfl,hw,hrd,hwe⟩:=hg.rd hii
  subst hw
  have hb:=hrd Hi emp hsi
  have hb0:Rd Hi emp ⟨b,off+i*4+0,none⟩ 1 [.int .i64 c.gates[i].kind]:=Rd_part hb 0 1 (by omega) rfl
  conv=>whnf
  refine dec_intro (by omega) ?_
  conv=>whnf
  refine⟨_,hb0,?_⟩
  conv=>whnf
  refine if_intro (fun h13=>?_) (fun h13=>?_)
  ·conv=>whnf
   rw[wrap_id (n:=(foundN (c.gates.take i):Int)+1) (by omega) (by omega)]
   refine⟨(i+1,Hi),⟨by dsimp only;omega,hsi⟩,by dsimp only;omega,?_⟩
   refine⟨rfl,rfl,?_⟩
   dsimp only
   rw[foundN_snoc hii,show isM c.gates[i]=true by unfold isM;rw[h13]<;>rfl,if_pos rfl]
   conv=>whnf
   repeat (refine⟨rfl,?_⟩;conv=>whnf)
   refine⟨by show En.v (.int .i64 (IntKind.i64.wrap (i+1)))=_;rw[wrap_id (by omega) (by omega)]<;>rfl,?_⟩
   conv=>whnf
   repeat (refine⟨rfl,?_⟩;conv=>whnf)
   exact trivial
  conv=>whnf
  refine dec_intro (by omega) ?_
  conv=>whnf
  refine⟨_,hb0,?_⟩
  conv=>whnf
  refine if_intro (fun h14=>?_) (fun h14=>?_)
  ·conv=>whnf
   rw[wrap_id (n:=(foundN (c.gates.take i):Int)+1) (by omega) (by omega)]
   refine⟨(i+1,Hi),⟨by dsimp only;omega,hsi⟩,by dsimp only;omega,?_⟩
   refine⟨rfl,rfl,?_⟩
   dsimp only
   rw[foundN_snoc hii,show isM c.gates[i]=true by unfold isM;rw[h14,Bool.or_true],if_pos rfl]
   conv=>whnf
   repeat (refine⟨rfl,?_⟩;conv=>whnf)
   refine⟨by show En.v (.int .i64 (IntKind.i64.wrap (i+1)))=_;rw[wrap_id (by omega) (by omega)]<;>rfl,?_⟩
   conv=>whnf
   repeat (refine⟨rfl,?_⟩;conv=>whnf)
   exact trivial
  conv=>whnf
  refine⟨(i+1,Hi),⟨by dsimp only;omega,hsi⟩,by dsimp only;omega,?_⟩
  refine⟨rfl,rfl,?_⟩
  dsimp only
  rw[foundN_snoc hii,show isM c.gates[i]=false by unfold isM;rw[h13,h14]<;>rfl,if_neg (by simp),Nat.add_zero]
  conv=>whnf
  repeat (refine⟨rfl,?_⟩;conv=>whnf)
  refine⟨by show En.v (.int .i64 (IntKind.i64.wrap (i+1)))=_;rw[wrap_id (by omega) (by omega)]<;>rfl,?_⟩
  conv=>whnf
  repeat (refine⟨rfl,?_⟩;conv=>whnf)
  exact trivial
 have hii:i=c.gates.length:=by
  have:=of_decide_eq_false hci
  omega
 subst hii
 conv=>whnf
 rw[List.take_length]
def sizeD (n : Nat):Int:=if sizeI n > 4 then -1 else sizeI n
theorem sizeD_at : ∀ i:Nat,i < 5→sizeD (2 ^ i)=(i:Int):=by decide +kernel
theorem sizeD_some {n : Nat} (h:¬ sizeD n < 0):∃ q:Nat,q < 5∧n=2 ^ q∧sizeD n=q:=by
 unfold sizeD at h ⊢
 split at h
 ·omega
 ·rename_i h'
  rw[if_neg h']
  obtain⟨q,h1,h2,h3⟩:=size_some h
  exact⟨q,by omega,h2,h3⟩
theorem sizeD_le (n : Nat):sizeD n≤4:=by
 unfold sizeD
 split<;>omega
def hermF (m : Mx):Bool:=equalR m (DaggerMF m).1
def denErr (m : Mx):Int:=if checkMF m ≠ 0 then checkMF m else if m.length ≠ wideM m∨sizeD m.length < 0 then 2 else if hermF m=true then 0 else 7
structure Den (m : Mx) (n:Nat):Prop where
 chk:checkMF m=0
 len:m.length=2 ^ n
 wid:wideM m=2 ^ n
 le:n≤4
 herm:hermF m=true
theorem Den.right {m : Mx} {n:Nat} (d:Den m n):Right m:=right_of d.chk
theorem Den.size {m : Mx} {n:Nat} (d:Den m n):sizeD m.length=n:=by
 rw[d.len]
 exact sizeD_at n (by have:=d.le;omega)
theorem Den.err {m : Mx} {n:Nat} (d:Den m n):denErr m=0:=by
 unfold denErr
 rw[if_neg (by rw[d.chk];simp),if_neg (by rw[d.size,d.len,d.wid];omega),if_pos d.herm]
theorem den_of {m : Mx} (h:denErr m=0):∃ n,Den m n:=by
 unfold denErr at h
 by_cases h1:checkMF m ≠ 0
 ·rw[if_pos h1] at h;exact absurd h h1
 rw[if_neg h1] at h
 by_cases h2:m.length ≠ wideM m∨sizeD m.length < 0
 ·rw[if_pos h2] at h;cases h
 rw[if_neg h2] at h
 by_cases h3:hermF m=true
 ·have h4:¬ sizeD m.length < 0:=fun h=>h2 (.inr h)
  have h5:m.length=wideM m:=Decidable.byContradiction fun h=>h2 (.inl h)
  obtain⟨q,q1,q2,q3⟩:=sizeD_some h4
  exact⟨q,by simpa using h1,q2,by rw[← h5];exact q2,by omega,h3⟩
 ·rw[if_neg h3] at h;cases h
theorem pow_le16 {n : Nat} (h:n≤4):2 ^ n≤16:=Nat.pow_le_pow_right (by decide) h
theorem Den.entry_ok {m : Mx} {n i k:Nat} (d:Den m n) (hi:i < 2 ^ n) (hk:k < 2 ^ n):checkF (entry m i k).1 (entry m i k).2=0:=
 entry_right d.chk (by rw[d.len];exact hi) (by rw[d.wid];exact hk)
def thenM (x : Mx × Int) (f:Mx→Mx × Int):Mx × Int:=if x.2 ≠ 0 then ([],x.2) else f x.1
def ofAt (v : Vec) (i k:Nat):(P4 × Int) × Int:=MulF (atL v i) (ConjF (atL v k)).1
def ofV (v : Vec):Mx × Int:=if stErr v ≠ 0 then ([],stErr v) else if sizeI v.length > 4 then ([],3) else resM 0 (ofAt v) v.length v.length
def mixedI (n : Int):Mx × Int:=if n < 0∨n > 4 then ([],3) else (diagR (fun _=>(⟨1,0,0,0⟩,2*n)) (2 ^ n.toNat) (2 ^ n.toNat),0)
def realF (x : P4 × Int):Bool:=decide (x.1=conjP x.1)
def mixM (d o : Mx) (x y:P4 × Int):Mx × Int:=
 if denErr d ≠ 0 then ([],denErr d) else if denErr o ≠ 0 then ([],denErr o) else if checkF x.1 x.2 ≠ 0 then ([],checkF x.1 x.2) else if checkF y.1 y.2 ≠ 0 then ([],checkF y.1 y.2) else
 if realF x=false∨realF y=false∨d.length ≠ o.length then ([],7) else thenM (ScaleMF d x) fun a=>thenM (ScaleMF o y) fun b=>AddMF a b
def onX (m : Mx) (ws:List Int) (n:Int):Mx × Int:=resM (onErr m ws n) (onAt m ws) (2 ^ n.toNat) (2 ^ n.toNat)
def aroundM (m u : Mx):Mx × Int:=thenM (MulMF u m) fun p=>MulMF p (DaggerMF u).1
def unitG (g : Gt) (n:Int):Mx:=(onX (OfR g.kind).1 g.ws n).1
def applyM (m : Mx) (g:Gt):Mx × Int:=if denErr m ≠ 0 then ([],denErr m) else if gErr g (sizeD m.length) ≠ 0 then ([],gErr g (sizeD m.length)) else aroundM m (unitG g (sizeD m.length))
def keepD (i w : Nat) (x:Int):Bool:=(if i.testBit w then (1:Int) else 0) == x
def keptAt (m : Mx) (w:Nat) (x:Int) (i k:Nat):(P4 × Int) × Int:=if (keepD i w x && keepD k w x)=true then ((LeastF (entry m i k).1 (entry m i k).2).1,0) else ((P4.zero,0),0)
def keptM (m : Mx) (w:Nat) (x:Int):Mx:=gridM (keptAt m w x) m.length m.length
def wiredErr (m : Mx) (w:Int):Int:=if denErr m ≠ 0 then denErr m else if w < 0∨w ≥ sizeD m.length then 1 else 0
def findM (m : Mx) (w x:Int):Mx × Int:=if wiredErr m w ≠ 0 then ([],wiredErr m w) else if x ≠ 0∧x ≠ 1 then ([],3) else (keptM m w.toNat x,0)
def forgetM (m : Mx) (w:Int):Mx × Int:=if wiredErr m w ≠ 0 then ([],wiredErr m w) else AddMF (keptM m w.toNat 0) (keptM m w.toNat 1)
def xGt (w : Int):Gt:=⟨1,[w],0,0⟩
def resetR (m : Mx) (w n:Int):Mx × Int:=thenM (aroundM (keptM m w.toNat 1) (unitG (xGt w) n)) fun x=>AddMF (keptM m w.toNat 0) x
def resetM (m : Mx) (w:Int):Mx × Int:=if wiredErr m w ≠ 0 then ([],wiredErr m w) else resetR m w (sizeD m.length)
def withB (k w v : Nat):Nat:=k % 2 ^ w+v*2 ^ w+(k - k % 2 ^ w)*2
def outAt (m : Mx) (w i k:Nat):(P4 × Int) × Int:=AddF (entry m (withB i w 0) (withB k w 0)) (entry m (withB i w 1) (withB k w 1))
def outM (m : Mx) (w:Int):Mx × Int:=if wiredErr m w ≠ 0 then ([],wiredErr m w) else resM 0 (outAt m w.toNat) (m.length / 2) (m.length / 2)
def purityM (m : Mx):(P4 × Int) × Int:=if denErr m ≠ 0 then ((P4.zero,0),denErr m) else if (MulMF m m).2 ≠ 0 then ((P4.zero,0),(MulMF m m).2) else TraceF (MulMF m m).1
def oddsM (m : Mx) (w:Int):(P4 × Int) × Int:=if wiredErr m w ≠ 0 then ((P4.zero,0),wiredErr m w) else TraceF (keptM m w.toNat 1)
def sameDM (m o : Mx):Bool × Int:=if denErr m ≠ 0 then (false,denErr m) else if denErr o ≠ 0 then (false,denErr o) else (equalR m o,0)
theorem eqN_comm (x y : P4 × Int):eqN x y=eqN y x:=by
 rw[Bool.eq_iff_iff,eqN_iff,eqN_iff]
 exact⟨Eq.symm,Eq.symm⟩
theorem equal_comm {m n : Mx}:equalR m n=equalR n m:=by
 unfold equalR
 cases ha:alikeF m n with
 | false=>
  have:alikeF n m=false:=by
   unfold alikeF at ha ⊢
   rw[Bool.and_eq_false_iff,beq_eq_false_iff_ne,beq_eq_false_iff_ne] at ha ⊢
   exact ha.imp Ne.symm Ne.symm
  rw[this]
  rfl
 | true=>
  obtain⟨e1,e2⟩:=alike_iff ha
  have:alikeF n m=true:=by unfold alikeF;rw[e1,e2];simp
  rw[this,Bool.true_and,Bool.true_and,e1,e2]
  apply all_congr
  intro t ht
  unfold eqAt
  rw[e2]
  exact eqN_comm _ _
theorem dag_ok {m : Mx} (h:checkMF m=0):DaggerMF m=(gridM (daggerAtR m) (wideM m) m.length,0)∧checkMF (DaggerMF m).1=0:=by
 have e:DaggerMF m=(gridM (daggerAtR m) (wideM m) m.length,0):=by
  rw[DaggerM_eq]
  unfold DaggerMR
  rw[← checkMF_checkMR,h]
  exact resM_ok rfl (errs_zero fun i k hi hk=>rfl)
 refine⟨e,?_⟩
 rw[e]
 exact dagger_check h
theorem kept_shape (m : Mx) (w:Nat) (x:Int):(keptM m w x).length=m.length:=gridM_len _ _ _
theorem kept_entry {m : Mx} {w:Nat} {x:Int} {i k:Nat} (hi:i < m.length) (hk:k < m.length):entry (keptM m w x) i k=(keptAt m w x i k).1:=gridM_entry _ hi hk
theorem fits_ex {p : P4} {k:Int} {N:Nat} (h:p.fine) (h0:0≤k) (hN:k≤N) (he:(fitsR p k).2=0):lv N (fitsR p k).1=lv N (p,k):=by
 unfold fitsR at he ⊢
 split at he
 ·cases he
 ·rename_i h'
  rw[if_neg h']
  exact (lv_form h h0 hN).1
theorem Add_ex {x y : P4 × Int} {N:Nat} (he:(AddR x y).2=0) (hx:x.2≤N) (hy:y.2≤N):lv N (AddR x y).1=pl (lv N x) (lv N y):=by
 obtain⟨cx,cy⟩:=Add_errs he
 obtain⟨e,hw⟩:=Add_fits cx cy
 have rx:=right_in cx
 have ry:=right_in cy
 rw[e] at he ⊢
 rw[fits_ex (fine_of hw) (by omega) (by omega) he,lv_sum rx.1 hx ry.1 hy]
theorem Mul_ex {x y : P4 × Int} {N M:Nat} (he:(MulR x y).2=0) (hx:x.2≤N) (hy:y.2≤M):lv (N+M) (MulR x y).1=pz (lv N x) (lv M y):=by
 obtain⟨cx,cy⟩:=Mul_errs he
 obtain⟨e,hw⟩:=Mul_fits cx cy
 have rx:=right_in cx
 have ry:=right_in cy
 rw[e] at he ⊢
 rw[fits_ex hw (by omega) (by omega) he]
 unfold lv
 dsimp only
 rw[pz_rz]
 congr 1
 omega
theorem Conj_ex {x : P4 × Int} {N:Nat} (hc:checkF x.1 x.2=0) (hx:x.2≤N):lv N (ConjR x).1=cz (lv N x):=by
 obtain⟨e,hc'⟩:=Conj_form hc
 have rx:=right_in hc
 have rc:=right_in (x:=(cz x.1,x.2)) hc'
 rw[e]
 dsimp only
 rw[(lv_form (N:=N) (fine_of (within_mono rc.2.2 (by decide))) rx.1 hx).1]
 unfold lv
 rw[cz_rz]
theorem le60 {x : P4 × Int} (h:checkF x.1 x.2=0):x.2≤(60:Nat):=by
 have:=right_in h
 omega
theorem le120 {x : P4 × Int} (h:checkF x.1 x.2=0):x.2≤(120:Nat):=by
 have:=right_in h
 omega
theorem dot_errs {x y : Nat→P4 × Int}:∀ n:Nat,(dotR x y n).2=0→∀ i,i < n→(dotR x y i).2=0
 | 0,_,i,hi=>absurd hi (Nat.not_lt_zero _)
 | n+1,h,i,hi=>by
  have hn:(dotR x y n).2=0:=by
   refine Decidable.byContradiction fun hne=>?_
   rw[dotR_stay hne (n+1) (by omega)] at h
   exact hne h
  rcases Nat.lt_or_ge i n with hl | hl
  ·exact dot_errs n hn i hl
  ·rw[show i=n by omega];exact hn
theorem dot_ex {x y : Nat→P4 × Int}:∀ n:Nat,(dotR x y n).2=0→(∀ i,i < n→checkF (x i).1 (x i).2=0)→(∀ i,i < n→checkF (y i).1 (y i).2=0) →
 IsL (dotR x y n).1∧lv 120 (dotR x y n).1=su (fun i=>pz (lv 60 (x i)) (lv 60 (y i))) n
 | 0,_,_,_=>⟨zero_L,lv_zero _⟩
 | n+1,h,hx,hy=>by
  have hn:=dot_errs (n+1) h n (by omega)
  obtain⟨i1,i2⟩:=dot_ex n hn (fun i hi=>hx i (by omega)) (fun i hi=>hy i (by omega))
  have e:dotR x y (n+1)=if (dotR x y n).2=0 then dotStepR (dotR x y n).1 (x n) (decide (n=0)) (y n) else dotR x y n:=rfl
  rw[e,if_pos hn] at h ⊢
  have hL:=dotStep_L h
  refine⟨hL,?_⟩
  unfold dotStepR at h ⊢
  dsimp only at h ⊢
  have hm:(MulR (x n) (y n)).2=0:=by
   refine Decidable.byContradiction fun hne=>?_
   rw[if_neg hne,if_neg hne] at h
   exact hne h
  have em:=Mul_ex hm (le60 (hx n (by omega))) (le60 (hy n (by omega)))
  have mL:=Mul_L hm
  rw[if_pos hm] at h ⊢
  by_cases h0:n=0
  ·subst h0
   simp only[decide_true,if_true] at h ⊢
   rw[if_pos hm]
   show _=pl P4.zero _
   rw[zero_pl]
   exact em
  ·rw[decide_eq_false h0] at h ⊢
   simp only[Bool.false_eq_true,if_false] at h ⊢
   have ha:(AddR (dotR x y n).1 (MulR (x n) (y n)).1).2=0:=by
    refine Decidable.byContradiction fun hne=>?_
    rw[if_neg hne] at h
    exact hne h
   rw[if_pos ha]
   show _=pl (su _ n) (pz (lv 60 (x n)) (lv 60 (y n)))
   rw[← i2,← em]
   exact Add_ex ha (le120 i1.ok) (le120 mL.ok)
structure Her (m : Mx) (n:Nat):Prop where
 chk:checkMF m=0
 len:m.length=n
 wid:wideM m=n
 val:∀ i k,i < n→k < n→lv 60 (entry m i k)=cz (lv 60 (entry m k i))
theorem Her.right {m : Mx} {n:Nat} (d:Her m n):Right m:=right_of d.chk
theorem Her.ok {m : Mx} {n i k:Nat} (d:Her m n) (hi:i < n) (hk:k < n):checkF (entry m i k).1 (entry m i k).2=0:=
 entry_right d.chk (by rw[d.len];exact hi) (by rw[d.wid];exact hk)
theorem form_lv {x : P4 × Int} (h:checkF x.1 x.2=0):lv 60 (formR x.1 x.2)=lv 60 x:=by
 have r:=right_in h
 exact (lv_form (N:=60) (fine_of (within_mono r.2.2 (by decide))) r.1 (by omega)).1
theorem form_eq_of {x y : P4 × Int} (hx:checkF x.1 x.2=0) (hy:checkF y.1 y.2=0) (h:lv 60 x=lv 60 y):formR x.1 x.2=formR y.1 y.2:=
 (form_L hx).ext (form_L hy) (le60 (form_L hx).ok) (le60 (form_L hy).ok) (by rw[form_lv hx,form_lv hy,h])
theorem Her.of {m : Mx} {n:Nat} (hc:checkMF m=0) (hl:m.length=n) (hw:wideM m=n) (hh:hermF m=true):Her m n:=by
 refine⟨hc,hl,hw,fun i k hi hk=>?_⟩
 have ok:∀ {i k:Nat},i < n→k < n→checkF (entry m i k).1 (entry m i k).2=0:=fun hi hk=>entry_right hc (by rw[hl];exact hi) (by rw[hw];exact hk)
 unfold hermF equalR at hh
 rw[Bool.and_eq_true,List.all_eq_true] at hh
 have hlt:i*n+k < n*n:=by
  have:=Nat.mul_le_mul_right n (show i+1≤n by omega)
  rw[Nat.succ_mul] at this
  omega
 have:=hh.2 (i*n+k) (List.mem_range.2 (by rw[hl,hw];exact hlt))
 unfold eqAt at this
 rw[hw,(divmod hk).1,(divmod hk).2,eqN_iff,(dag_ok hc).1,hl,hw,gridM_entry _ hi hk] at this
 unfold daggerAtR at this
 have hcj:=Conj_L (ok hk hi)
 have:=congrArg (lv 60) this
 dsimp only at this
 rw[form_lv (ok hi hk),form_lv hcj.ok,Conj_ex (ok hk hi) (le60 (ok hk hi))] at this
 exact this
theorem Her.herm {m : Mx} {n:Nat} (d:Her m n):hermF m=true:=by
 obtain⟨e,hc⟩:=dag_ok d.chk
 have rd:=grid_right (daggerAtR m) (h:=n) (w:=n) (by rw[← d.len];exact d.right.pos) (by rw[← d.len];exact d.right.le) (by rw[← d.len];exact d.right.pos) (by rw[← d.len];exact d.right.le)
 unfold hermF equalR
 rw[e,d.wid,d.len,Bool.and_eq_true]
 refine⟨?_,List.all_eq_true.2 fun t ht=>?_⟩
 ·unfold alikeF
  rw[gridM_len,rd.2,d.wid,d.len]
  simp
 ·rw[List.mem_range] at ht
  have hn:0 < n:=by
   rcases Nat.eq_zero_or_pos n with h | h
   ·subst h;simp at ht
   ·exact h
  have hi:t / n < n:=Nat.div_lt_of_lt_mul ht
  have hk:t % n < n:=Nat.mod_lt _ hn
  unfold eqAt
  rw[d.wid,eqN_iff,gridM_entry _ hi hk]
  unfold daggerAtR
  have hcj:=Conj_L (d.ok hk hi)
  dsimp only
  refine form_eq_of (d.ok hi hk) hcj.ok ?_
  rw[Conj_ex (d.ok hk hi) (le60 (d.ok hk hi))]
  exact d.val _ _ hi hk
theorem res_ok {e : Int} {F:Nat→Nat→(P4 × Int) × Int} {h w:Nat} (hr:(resM e F h w).2=0):e=0∧(resM e F h w).1=gridM F h w∧∀ i k,i < h→k < w→(F i k).2=0:=by
 unfold resM at hr ⊢
 by_cases he:e ≠ 0
 ·rw[if_pos he] at hr;exact absurd hr he
 rw[if_neg he] at hr ⊢
 by_cases h2:firstErr (errsE F h w) ≠ 0
 ·rw[if_pos h2] at hr;exact absurd hr h2
 rw[if_neg h2]
 refine⟨by simpa using he,rfl,fun i k hi hk=>?_⟩
 have hz:=firstErr_zero (by simpa using h2)
 have hlt:i*w+k < h*w:=by
  have:=Nat.mul_le_mul_right w (show i+1≤h by omega)
  rw[Nat.succ_mul] at this
  omega
 refine hz _ (List.mem_map.2 ⟨i*w+k,List.mem_range.2 hlt,?_⟩)
 rw[(divmod hk).1,(divmod hk).2]
theorem grid_check {F : Nat→Nat→(P4 × Int) × Int} {n:Nat} (h1:0 < n) (h2:n≤64) (h:∀ i k,i < n→k < n→checkF (F i k).1.1 (F i k).1.2=0):checkMF (gridM F n n)=0∧wideM (gridM F n n)=n:=by
 obtain⟨r1,r2⟩:=grid_right F h1 h2 h1 h2
 refine⟨check_grid r1 fun i k hi hk=>?_,r2⟩
 rw[gridM_len] at hi
 rw[r2] at hk
 rw[gridM_entry F hi hk]
 exact h i k hi hk
theorem Her.pos {m : Mx} {n:Nat} (d:Her m n):0 < n∧n≤64:=by
 rw[← d.len]
 exact⟨d.right.pos,d.right.le⟩
theorem add_errs0 {m o : Mx} (he:(AddMF m o).2=0):checkMF m=0∧checkMF o=0∧m.length=o.length∧wideM m=wideM o∧(AddMF m o).1=gridM (addAt m o) m.length (wideM m)∧∀ i k,i < m.length→k < wideM m→(addAt m o i k).2=0:=by
 obtain⟨h1,h2,h3⟩:=res_ok he
 unfold addErr bothErr at h1
 by_cases h4:errsM [m,o] ≠ 0
 ·rw[if_pos h4] at h1;exact absurd h1 h4
 rw[if_neg h4] at h1
 have hz:=firstErr_zero (show firstErr ([m,o].map checkMF)=0 by simpa[errsM] using h4)
 cases ha:alikeF m o with
 | false=>rw[ha] at h1;cases h1
 | true=>
  obtain⟨e1,e2⟩:=alike_iff ha
  exact⟨hz _ (by simp),hz _ (by simp),e1,e2,h2,h3⟩
theorem Her.add {m o : Mx} {n:Nat} (hm:Her m n) (ho:Her o n) (he:(AddMF m o).2=0):Her (AddMF m o).1 n:=by
 obtain⟨_,_,_,_,e,h0⟩:=add_errs0 he
 rw[hm.len,hm.wid] at e h0
 have key:∀ i k,i < n→k < n→IsL (addAt m o i k).1∧lv 60 (addAt m o i k).1=pl (lv 60 (entry m i k)) (lv 60 (entry o i k)):=fun i k hi hk=>by
  have h:=h0 i k hi hk
  unfold addAt at h ⊢
  rw[Add_eq] at h ⊢
  exact⟨Add_L h,Add_ex h (le60 (hm.ok hi hk)) (le60 (ho.ok hi hk))⟩
 obtain⟨c1,c2⟩:=grid_check (F:=addAt m o) hm.pos.1 hm.pos.2 fun i k hi hk=>(key i k hi hk).1.ok
 rw[e]
 refine⟨c1,gridM_len _ _ _,c2,fun i k hi hk=>?_⟩
 rw[gridM_entry _ hi hk,gridM_entry _ hk hi,(key i k hi hk).2,(key k i hk hi).2,cz_pl,← hm.val i k hi hk,← ho.val i k hi hk]
theorem Her.kept {m : Mx} {n:Nat} (hm:Her m n) (w:Nat) (x:Int):Her (keptM m w x) n:=by
 have key:∀ i k,i < n→k < n→IsL (keptAt m w x i k).1∧lv 60 (keptAt m w x i k).1=if (keepD i w x && keepD k w x)=true then lv 60 (entry m i k) else P4.zero:=fun i k hi hk=>by
  unfold keptAt
  split
  ·have h:=hm.ok hi hk
   rw[LeastF_eq h]
   exact⟨form_L h,form_lv h⟩
  ·exact⟨zero_L,lv_zero _⟩
 obtain⟨c1,c2⟩:=grid_check (F:=keptAt m w x) hm.pos.1 hm.pos.2 fun i k hi hk=>(key i k hi hk).1.ok
 unfold keptM
 rw[hm.len]
 refine⟨c1,gridM_len _ _ _,c2,fun i k hi hk=>?_⟩
 rw[gridM_entry _ hi hk,gridM_entry _ hk hi,(key i k hi hk).2,(key k i hk hi).2,Bool.and_comm]
 split
 ·exact hm.val i k hi hk
 ·rfl
theorem mul_errs0 {m o : Mx} (he:(MulMF m o).2=0):checkMF m=0∧checkMF o=0∧wideM m=o.length∧(MulMF m o).1=gridM (mulAt m o) m.length (wideM o)∧∀ i k,i < m.length→k < wideM o→(mulAt m o i k).2=0:=by
 obtain⟨h1,h2,h3⟩:=res_ok he
 unfold mulErr bothErr at h1
 by_cases h4:errsM [m,o] ≠ 0
 ·rw[if_pos h4] at h1;exact absurd h1 h4
 rw[if_neg h4] at h1
 have hz:=firstErr_zero (show firstErr ([m,o].map checkMF)=0 by simpa[errsM] using h4)
 by_cases h5:wideM m=o.length
 ·exact⟨hz _ (by simp),hz _ (by simp),h5,h2,h3⟩
 ·rw[if_neg h5] at h1;cases h1
theorem mul_ex {m o : Mx} {n:Nat} (hn:0 < n∧n≤64) (l1:m.length=n) (w1:wideM m=n) (l2:o.length=n) (w2:wideM o=n) (he:(MulMF m o).2=0) :
 checkMF (MulMF m o).1=0∧(MulMF m o).1.length=n∧wideM (MulMF m o).1=n∧∀ i k,i < n→k < n→IsL (entry (MulMF m o).1 i k)∧lv 120 (entry (MulMF m o).1 i k)=su (fun t=>pz (lv 60 (entry m i t)) (lv 60 (entry o t k))) n:=by
 obtain⟨c1,c2,_,e,h0⟩:=mul_errs0 he
 rw[l1,w2] at e h0
 have key:∀ i k,i < n→k < n→IsL (mulAt m o i k).1∧lv 120 (mulAt m o i k).1=su (fun t=>pz (lv 60 (entry m i t)) (lv 60 (entry o t k))) n:=fun i k hi hk=>by
  have h:=h0 i k hi hk
  have hd:mulAt m o i k=dotR (fun t=>entry m i t) (fun t=>entry o t k) n:=by
   unfold mulAt
   rw[l2]
   exact dot_eq _ fun _ _=>⟨rfl,rfl⟩
  rw[hd] at h ⊢
  exact dot_ex n h (fun t ht=>entry_right c1 (by rw[l1];exact hi) (by rw[w1];exact ht)) (fun t ht=>entry_right c2 (by rw[l2];exact ht) (by rw[w2];exact hk))
 obtain⟨g1,g2⟩:=grid_check (F:=mulAt m o) hn.1 hn.2 fun i k hi hk=>(key i k hi hk).1.ok
 rw[e]
 refine⟨g1,gridM_len _ _ _,g2,fun i k hi hk=>?_⟩
 rw[gridM_entry _ hi hk]
 exact key i k hi hk
theorem lv_up {x : P4 × Int} {N M:Nat} (hx:x.2≤N) (h0:0≤x.2):lv (N+M) x=rz M (lv N x):=by
 unfold lv
 rw[← rz_add]
 congr 1
 omega
theorem rz_su (f : Nat→P4) (M:Nat):∀ n,rz M (su f n)=su (fun i=>rz M (f i)) n
 | 0=>rz_zero M
 | n+1=>by
  show rz M (pl _ _)=pl _ _
  rw[rz_pl,rz_su f M n]
theorem rz_pz_l (M : Nat) (p q:P4):rz M (pz p q)=pz (rz M p) q:=by
 have:=pz_rz p q M 0
 rw[Nat.add_zero] at this
 exact this.symm
theorem Her.around {m u : Mx} {n:Nat} (hm:Her m n) (l1:u.length=n) (w1:wideM u=n) (he:(aroundM m u).2=0):Her (aroundM m u).1 n:=by
 unfold aroundM thenM at he ⊢
 by_cases h1:(MulMF u m).2 ≠ 0
 ·rw[if_pos h1] at he;exact absurd he h1
 rw[if_neg h1] at he ⊢
 have h1:(MulMF u m).2=0:=by simpa using h1
 obtain⟨cu,_⟩:=mul_errs0 h1
 obtain⟨p1,p2,p3,p4⟩:=mul_ex hm.pos l1 w1 hm.len hm.wid h1
 obtain⟨ed,cd⟩:=dag_ok cu
 have dl:(DaggerMF u).1.length=n:=by rw[ed,w1];exact gridM_len _ _ _
 have dw:wideM (DaggerMF u).1=n:=by rw[ed,w1,l1];exact (grid_right _ hm.pos.1 hm.pos.2 hm.pos.1 hm.pos.2).2
 obtain⟨q1,q2,q3,q4⟩:=mul_ex hm.pos p2 p3 dl dw he
 have ok:∀ {i k:Nat},i < n→k < n→checkF (entry u i k).1 (entry u i k).2=0:=fun hi hk=>entry_right cu (by rw[l1];exact hi) (by rw[w1];exact hk)
 have dv:∀ i k,i < n→k < n→lv 60 (entry (DaggerMF u).1 i k)=cz (lv 60 (entry u k i)):=fun i k hi hk=>by
  rw[ed,w1,l1,gridM_entry _ hi hk]
  unfold daggerAtR
  exact Conj_ex (ok hk hi) (le60 (ok hk hi))
 have up:∀ i k,i < n→k < n→rz 60 (lv 120 (entry (MulMF (MulMF u m).1 (DaggerMF u).1).1 i k))=su (fun t=>su (fun s=>pz (pz (lv 60 (entry u i s)) (lv 60 (entry m s t))) (cz (lv 60 (entry u k t)))) n) n:=fun i k hi hk=>by
  rw[(q4 i k hi hk).2,rz_su]
  refine su_congr n fun t ht=>?_
  obtain⟨l,e⟩:=p4 i t hi ht
  rw[rz_pz_l,← lv_up (le60 l.ok) (right_in l.ok).1,e,dv t k ht hk,su_pz]
 have main:∀ i k,i < n→k < n→rz 60 (lv 120 (entry (MulMF (MulMF u m).1 (DaggerMF u).1).1 i k))=cz (rz 60 (lv 120 (entry (MulMF (MulMF u m).1 (DaggerMF u).1).1 k i))):=fun i k hi hk=>by
  rw[up i k hi hk,up k i hk hi,cz_su,su_swap]
  refine su_congr n fun s hs=>?_
  rw[cz_su]
  refine su_congr n fun t ht=>?_
  rw[cz_pz,cz_pz,cz_cz,hm.val s t hs ht]
  generalize cz (lv 60 (entry u k t))=A
  generalize lv 60 (entry u i s)=B
  generalize cz (lv 60 (entry m t s))=C
  rw[pz_assoc,pz_comm B,pz_comm C A]
 refine⟨q1,q2,q3,fun i k hi hk=>?_⟩
 obtain⟨la,_⟩:=q4 i k hi hk
 obtain⟨lb,_⟩:=q4 k i hk hi
 have h:=main i k hi hk
 rw[← lv_up (N:=120) (le120 la.ok) (right_in la.ok).1,← lv_up (N:=120) (le120 lb.ok) (right_in lb.ok).1] at h
 have e60:∀ {x:P4 × Int},IsL x→lv (120+60) x=rz 120 (lv 60 x):=fun l=>lv_up (N:=60) (M:=120) (le60 l.ok) (right_in l.ok).1
 rw[e60 la,e60 lb,cz_rz] at h
 exact rz_inj 120 h
theorem sizeD_none {n : Nat} (h:∀ q,q < 5→n ≠ 2 ^ q):sizeD n=-1:=by
 by_cases hs:sizeI n < 0
 ·have:sizeI n=-1:=by
   unfold sizeI at hs ⊢
   repeat (split at hs;· omega)
   split<;>simp_all
  unfold sizeD
  rw[this]
  rfl
 ·obtain⟨q,q1,q2,q3⟩:=size_some hs
  unfold sizeD
  rw[q3]
  have:¬ q < 5:=fun hq=>h q hq q2
  rw[if_pos (by omega)]
theorem e101 (n : Nat) (H:PH):Cl Tryz.prog 101 [.int .i64 n] H emp fun r _ _=>r=.int .i64 (sizeD n):=by
 refine Cl_of (pol:=polL) Γok Tryz.func101 (by kernel_rfl) rfl ?_
 conv=>whnf
 refine W_loop (pol:=polL) Γok (Nat × PH) (fun i=>i.1≤5∧Sub H i.2∧∀ q,q < i.1→n ≠ 2 ^ q) (fun i=>5 - i.1) (fun i=>[(4,.v (.int .i64 i.1))]) (fun _=>[]) (fun i=>i.2) (fun _=>emp) ⟨(0,H),⟨by simp,Sub.refl _,fun q hq=>by omega⟩,rfl,rfl,?_⟩ ?_
 ·conv=>whnf
  repeat (refine⟨rfl,?_⟩;conv=>whnf)
  exact trivial
 rintro ⟨i,Hi⟩ ⟨h1i,hsi,hpi⟩
 dsimp only at h1i hsi hpi
 conv=>whnf
 refine if_intro (fun hci=>?_) (fun hci=>?_)
 ·have hii:i < 5:=by
   have:=of_decide_eq_true hci
   omega
  conv=>whnf
  rw[shl_nat (by omega)]
  conv=>whnf
  refine if_intro (fun hx=>?_) (fun hx=>?_)
  ·conv=>whnf
   have hx:n=2 ^ i:=by
    have:(n:Int)=((2 ^ i:Nat):Int):=by simpa using hx
    exact_mod_cast this
   rw[hx,sizeD_at i hii]
  have hx:n ≠ 2 ^ i:=fun e=>by
   rw[e] at hx
   simp at hx
  conv=>whnf
  refine⟨(i+1,Hi),⟨by dsimp only;omega,hsi,fun q hq=>by
   rcases Nat.lt_succ_iff_lt_or_eq.1 hq with h | rfl
   ·exact hpi q h
   ·exact hx⟩,by dsimp only;omega,?_⟩
  refine⟨rfl,rfl,?_⟩
  conv=>whnf
  repeat (refine⟨rfl,?_⟩;conv=>whnf)
  refine⟨by show En.v (.int .i64 (IntKind.i64.wrap (i+1)))=_;rw[wrap_id (by omega) (by omega)]<;>rfl,?_⟩
  conv=>whnf
  repeat (refine⟨rfl,?_⟩;conv=>whnf)
  exact trivial
 have hii:i=5:=by
  have:=of_decide_eq_false hci
  omega
 subst hii
 dsimp only
 conv=>whnf
 conv=>whnf
 rw[sizeD_none hpi]
theorem e53 (n : Nat) (H:PH):Cl Tryz.prog 53 [.int .i64 n] H emp fun r _ _=>r=.int .i64 (sizeD n):=by
 refine Cl_of (pol:=polL) Γok Tryz.func53 (by kernel_rfl) rfl ?_
 conv=>whnf
 refine (d72 n _).val fun H1 s1=>?_
 conv=>whnf
 unfold sizeD
 refine if_intro (fun h=>?_) (fun h=>?_)
 ·conv=>whnf
  rw[if_pos (of_decide_eq_true h)]
 ·conv=>whnf
  rw[if_neg (of_decide_eq_false h)]
theorem e48 (m : Mx) (hlen:m.length < 1000000) (H:PH) (v:Value) (hv:MatH H v m):Cl Tryz.prog 48 [v] H emp fun r _ _=>r=.int .i64 (denErr m):=by
 obtain⟨base,cap,rfl⟩:∃ base cap,v=.slice base m.length cap:=by
  obtain⟨_,_,⟨b,c,h,_⟩,_⟩:=hv
  exact⟨b,c,h⟩
 refine Cl_of (pol:=polL) Γok Tryz.func48 (by kernel_rfl) rfl ?_
 conv=>whnf
 unfold denErr
 refine (c29 m _ _ hlen hv).val fun H1 s1=>?_
 conv=>whnf
 refine if_intro (fun he=>?_) (fun he=>?_)
 ·conv=>whnf
  rw[if_pos (show checkMF m ≠ 0 by simpa using he)]
 have h0:checkMF m=0:=by simpa using he
 rw[if_neg (by simpa using h0)]
 conv=>whnf
 have rm:=right_of h0
 obtain⟨rb,roff,rbase,rcap,rfl,hrd0,_⟩:=(hv.up s1).rd (O:=emp) rm.pos
 refine dec_intro (by have:=rm.pos;omega) ?_
 conv=>whnf
 refine⟨_,hrd0.anyO,?_⟩
 conv=>whnf
 have hw:wideM m=(m[0]'rm.pos).length:=wideM_get rm.pos
 refine if_intro (fun hx=>?_) (fun hx=>?_)
 ·conv=>whnf
  have hx:m.length ≠ wideM m:=by
   have:¬ ((m.length:Int)=((m[0]'rm.pos).length:Int)):=by simpa using hx
   omega
  rw[if_pos (.inl hx)]
 have hx:m.length=wideM m:=by
  have:((m.length:Int)=((m[0]'rm.pos).length:Int)):=by simpa using hx
  omega
 conv=>whnf
 refine (e101 m.length _).val fun H2 s2=>?_
 conv=>whnf
 refine if_intro (fun hy=>?_) (fun hy=>?_)
 ·conv=>whnf
  rw[if_pos (.inr (of_decide_eq_true hy))]
 rw[if_neg (fun h=>h.elim (fun h=>h hx) (of_decide_eq_false hy))]
 conv=>whnf
 refine (Cl.outH (c53 m hlen _ _ (((hv.up s1).up s2)))).use fun r H3 s3 hr=>?_
 obtain⟨_,u,rfl,hu⟩:=hr
 obtain⟨ub,uc,rfl⟩:=MatH.sl hu
 conv=>whnf
 obtain⟨ed,cd⟩:=dag_ok h0
 have dl:(DaggerMF m).1.length < 1000000:=by
  rw[ed,gridM_len,← hx]
  exact hlen
 refine (c33 (DaggerMF m).1 m dl hlen _ _ _ hu ((((hv.up s1).up s2)).up s3)).val fun H4 s4=>?_
 have hz:errsM [(DaggerMF m).1,m]=0:=by
  unfold errsM
  simp[firstErr,cd,h0]
 rw[if_pos hz,same_eq hz,equal_comm]
 conv=>whnf
 unfold hermF
 cases equalR m (DaggerMF m).1 with
 | false=>
  conv=>whnf
  rfl
 | true=>
  conv=>whnf
  rfl
theorem e49 (m : Mx) (H:PH) (v:Value) (hv:MatH H v m):Cl Tryz.prog 49 [v] H emp fun r _ _=>r=.int .i64 (denErr m):=by
 obtain⟨base,cap,rfl⟩:∃ base cap,v=.slice base m.length cap:=by
  obtain⟨_,_,⟨b,c,h,_⟩,_⟩:=hv
  exact⟨b,c,h⟩
 refine Cl_of (pol:=polL) Γok Tryz.func49 (by kernel_rfl) rfl ?_
 conv=>whnf
 unfold denErr
 refine (c30 m _ _ hv).val fun H1 s1=>?_
 rw[← checkMF_checkMR]
 conv=>whnf
 refine if_intro (fun he=>?_) (fun he=>?_)
 ·conv=>whnf
  rw[if_pos (show checkMF m ≠ 0 by simpa using he)]
 have h0:checkMF m=0:=by simpa using he
 rw[if_neg (by simpa using h0)]
 conv=>whnf
 have rm:=right_of h0
 obtain⟨rb,roff,rbase,rcap,rfl,hrd0,_⟩:=(hv.up s1).rd (O:=emp) rm.pos
 refine dec_intro (by have:=rm.pos;omega) ?_
 conv=>whnf
 refine⟨_,hrd0.anyO,?_⟩
 conv=>whnf
 have hw:wideM m=(m[0]'rm.pos).length:=wideM_get rm.pos
 refine if_intro (fun hx=>?_) (fun hx=>?_)
 ·conv=>whnf
  have hx:m.length ≠ wideM m:=by
   have:¬ ((m.length:Int)=((m[0]'rm.pos).length:Int)):=by simpa using hx
   omega
  rw[if_pos (.inl hx)]
 have hx:m.length=wideM m:=by
  have:((m.length:Int)=((m[0]'rm.pos).length:Int)):=by simpa using hx
  omega
 conv=>whnf
 refine (e53 m.length _).val fun H2 s2=>?_
 conv=>whnf
 refine if_intro (fun hy=>?_) (fun hy=>?_)
 ·conv=>whnf
  rw[if_pos (.inr (of_decide_eq_true hy))]
 rw[if_neg (fun h=>h.elim (fun h=>h hx) (of_decide_eq_false hy))]
 conv=>whnf
 have hc:=c57 m H2 _ ((hv.up s1).up s2)
 rw[← DaggerM_eq] at hc
 refine hc.use fun r H3 s3 hr=>?_
 obtain⟨_,u,rfl,hu⟩:=hr
 obtain⟨ub,uc,rfl⟩:=MatH.sl hu
 conv=>whnf
 obtain⟨ed,cd⟩:=dag_ok h0
 refine (c96 m (DaggerMF m).1 h0 cd _ _ _ ((((hv.up s1).up s2)).up s3) hu).val fun H4 s4=>?_
 conv=>whnf
 unfold hermF
 cases equalR m (DaggerMF m).1 with
 | false=>
  conv=>whnf
  rfl
 | true=>
  conv=>whnf
  rfl
theorem e66 (n : Nat) (hn:n < 1000000) (H:PH):Cl Tryz.prog 66 [.int .i64 n] H emp fun r H' M'=>Dis H' M'∧OwnM M' r n n (List.replicate n (zeros n)):=by
 refine Cl.repart (Q:=fun r H' M'=>∃ bs b0,RowsO M' bs (List.replicate n (zeros n))∧b0 ∉ bs∧r=.slice (some ⟨b0,0,none⟩) n n∧M' b0=some (.cells ⟨bs.map fun b=>rowV b n⟩ 22 (0,0))) ?_ ?_
 ·refine Cl_of (pol:=polL) Γok Tryz.func66 (by kernel_rfl) rfl ?_
  conv=>whnf
  refine dec_intro (Int.le_refl _) ?_
  conv=>whnf
  refine dec_intro (by omega) ?_
  conv=>whnf
  refine dec_intro (by omega) ?_
  conv=>whnf
  intro b0 hb0 _
  conv=>whnf
  refine W_loop (pol:=polL) Γok (Nat × List Nat × PH) (fun i=>i.1≤n∧RowsO i.2.2 i.2.1 (List.replicate i.1 (zeros n))∧b0 ∉ i.2.1∧i.2.2 b0=some (.cells ⟨(i.2.1.map fun b=>rowV b n)++List.replicate (n - i.1) (.slice none 0 0)⟩ 22 (0,0))) (fun i=>n - i.1) (fun i=>[(9,.v (.int .i64 i.1))]) (fun _=>[]) (fun _=>H) (fun i=>i.2.2) ⟨(0,[],ins emp b0 (.cells ⟨(List.replicate n [Value.slice none 0 0]).flatten⟩ 22 (0,0))),⟨by simp,⟨rfl,List.nodup_nil,by simp⟩,by simp,?_⟩,rfl,rfl,?_⟩ ?_
  ·show ins _ _ _ b0=_
   rw[ins_same]
   simp
  ·conv=>whnf
   repeat (refine⟨rfl,?_⟩;conv=>whnf)
   exact trivial
  ·rintro ⟨i,bs,O'⟩ ⟨h1,h2,h3,h4⟩
   dsimp only at h1 h2 h3 h4
   conv=>whnf
   refine if_intro (fun hg=>?_) (fun hg=>?_)
   ·have hi:i < n:=by simpa using hg
    conv=>whnf
    refine dec_intro (Int.le_refl _) ?_
    conv=>whnf
    refine dec_intro (by omega) ?_
    conv=>whnf
    refine dec_intro (by omega) ?_
    conv=>whnf
    intro b2 hb2 hO2
    conv=>whnf
    refine dec_intro (by simpa using hi) ?_
    conv=>whnf
    have hbl:bs.length=i:=by have:=h2.len;simpa using this
    have hbne:b0 ≠ b2:=fun e=>by subst e;dsimp only at hO2;rw[h4] at hO2;cases hO2
    refine⟨_,_,(ins_ne _ _ hbne).trans h4,?_,?_⟩
    ·simp
     omega
    conv=>whnf
    refine⟨(i+1,bs++[b2],ins (ins O' b2 (.cells ⟨(List.replicate n [.int .i64 0,.int .i64 0,.int .i64 0,.int .i64 0,.int .i64 0]).flatten⟩ 25 (0,0))) b0 (.cells ⟨((bs++[b2]).map fun b=>rowV b n)++List.replicate (n - (i+1)) (.slice none 0 0)⟩ 22 (0,0))),⟨hi,?_,?_,?_⟩,by dsimp only;omega,?_⟩
    ·show RowsO _ (bs++[b2]) (List.replicate (i+1) (zeros n))
     rw[List.replicate_succ']
     have hcz:(List.replicate n [.int .i64 0,.int .i64 0,.int .i64 0,.int .i64 0,.int .i64 0]).flatten=cellsN (zeros n):=by
      unfold cellsN zeros
      rw[List.map_replicate]
      rfl
     rw[hcz]
     refine (h2.snoc hO2).other ?_
     simp[h3,hbne]
    ·show ¬ b0∈bs++[b2]
     simp[h3,hbne]
    ·exact ins_same _ _ _
    ·conv=>whnf
     refine⟨rfl,?_,?_⟩
     ·show ins (ins O' b2 _) b0 _=ins (ins O' b2 _) b0 _
      congr 3
      rw[List.map_append]
      exact (set_at (bs.map fun b=>rowV b n) (.slice none 0 0) (rowV b2 n) (by simpa using hbl) hi).symm
     conv=>whnf
     repeat (refine⟨rfl,?_⟩;conv=>whnf)
     refine⟨by show En.v (.int .i64 (IntKind.i64.wrap (i+1)))=_;rw[wrap_id (by omega) (by omega)]<;>rfl,?_⟩
     conv=>whnf
     repeat (refine⟨rfl,?_⟩;conv=>whnf)
     exact trivial
   ·have hi:i=n:=by simp at hg;omega
    conv=>whnf
    subst hi
    refine⟨bs,b0,h2,h3,?_,?_⟩
    ·simp
    ·rw[Nat.sub_self,List.replicate_zero,List.append_nil] at h4
     exact h4
 ·rintro r H' M' hsub hd hq
  exact⟨_,_,.refl hd,hd,by simp,(fun i r hr=>by simp[List.getElem?_replicate] at hr;rw[← hr.2];simp[zeros]),hq⟩
theorem e97 (n : Nat) (hn:n < 1000000) (H:PH):Cl Tryz.prog 97 [.int .i64 n] H emp fun r H' M'=>Dis H' M'∧OwnM M' r n n (List.replicate n (zeros n)):=by
 refine Cl.repart (Q:=fun r H' M'=>∃ bs b0,RowsO M' bs (List.replicate n (zeros n))∧b0 ∉ bs∧r=.slice (some ⟨b0,0,none⟩) n n∧M' b0=some (.cells ⟨bs.map fun b=>rowV b n⟩ 22 (0,0))) ?_ ?_
 ·refine Cl_of (pol:=polL) Γok Tryz.func97 (by kernel_rfl) rfl ?_
  conv=>whnf
  refine dec_intro (Int.le_refl _) ?_
  conv=>whnf
  refine dec_intro (by omega) ?_
  conv=>whnf
  refine dec_intro (by omega) ?_
  conv=>whnf
  intro b0 hb0 _
  conv=>whnf
  refine W_loop (pol:=polL) Γok (Nat × List Nat × PH) (fun i=>i.1≤n∧RowsO i.2.2 i.2.1 (List.replicate i.1 (zeros n))∧b0 ∉ i.2.1∧i.2.2 b0=some (.cells ⟨(i.2.1.map fun b=>rowV b n)++List.replicate (n - i.1) (.slice none 0 0)⟩ 22 (0,0))) (fun i=>n - i.1) (fun i=>[(4,.v (.int .i64 i.1))]) (fun _=>[]) (fun _=>H) (fun i=>i.2.2) ⟨(0,[],ins emp b0 (.cells ⟨(List.replicate n [Value.slice none 0 0]).flatten⟩ 22 (0,0))),⟨by simp,⟨rfl,List.nodup_nil,by simp⟩,by simp,?_⟩,rfl,rfl,?_⟩ ?_
  ·show ins _ _ _ b0=_
   rw[ins_same]
   simp
  ·conv=>whnf
   repeat (refine⟨rfl,?_⟩;conv=>whnf)
   exact trivial
  ·rintro ⟨i,bs,O'⟩ ⟨h1,h2,h3,h4⟩
   dsimp only at h1 h2 h3 h4
   conv=>whnf
   refine if_intro (fun hg=>?_) (fun hg=>?_)
   ·have hi:i < n:=by simpa using hg
    conv=>whnf
    refine dec_intro (Int.le_refl _) ?_
    conv=>whnf
    refine dec_intro (by omega) ?_
    conv=>whnf
    refine dec_intro (by omega) ?_
    conv=>whnf
    intro b2 hb2 hO2
    conv=>whnf
    refine dec_intro (by simpa using hi) ?_
    conv=>whnf
    have hbl:bs.length=i:=by have:=h2.len;simpa using this
    have hbne:b0 ≠ b2:=fun e=>by subst e;dsimp only at hO2;rw[h4] at hO2;cases hO2
    refine⟨_,_,(ins_ne _ _ hbne).trans h4,?_,?_⟩
    ·simp
     omega
    conv=>whnf
    refine⟨(i+1,bs++[b2],ins (ins O' b2 (.cells ⟨(List.replicate n [.int .i64 0,.int .i64 0,.int .i64 0,.int .i64 0,.int .i64 0]).flatten⟩ 25 (0,0))) b0 (.cells ⟨((bs++[b2]).map fun b=>rowV b n)++List.replicate (n - (i+1)) (.slice none 0 0)⟩ 22 (0,0))),⟨hi,?_,?_,?_⟩,by dsimp only;omega,?_⟩
    ·show RowsO _ (bs++[b2]) (List.replicate (i+1) (zeros n))
     rw[List.replicate_succ']
     have hcz:(List.replicate n [.int .i64 0,.int .i64 0,.int .i64 0,.int .i64 0,.int .i64 0]).flatten=cellsN (zeros n):=by
      unfold cellsN zeros
      rw[List.map_replicate]
      rfl
     rw[hcz]
     refine (h2.snoc hO2).other ?_
     simp[h3,hbne]
    ·show ¬ b0∈bs++[b2]
     simp[h3,hbne]
    ·exact ins_same _ _ _
    ·conv=>whnf
     refine⟨rfl,?_,?_⟩
     ·show ins (ins O' b2 _) b0 _=ins (ins O' b2 _) b0 _
      congr 3
      rw[List.map_append]
      exact (set_at (bs.map fun b=>rowV b n) (.slice none 0 0) (rowV b2 n) (by simpa using hbl) hi).symm
     conv=>whnf
     repeat (refine⟨rfl,?_⟩;conv=>whnf)
     refine⟨by show En.v (.int .i64 (IntKind.i64.wrap (i+1)))=_;rw[wrap_id (by omega) (by omega)]<;>rfl,?_⟩
     conv=>whnf
     repeat (refine⟨rfl,?_⟩;conv=>whnf)
     exact trivial
   ·have hi:i=n:=by simp at hg;omega
    conv=>whnf
    subst hi
    refine⟨bs,b0,h2,h3,?_,?_⟩
    ·simp
    ·rw[Nat.sub_self,List.replicate_zero,List.append_nil] at h4
     exact h4
 ·rintro r H' M' hsub hd hq
  exact⟨_,_,.refl hd,hd,by simp,(fun i r hr=>by simp[List.getElem?_replicate] at hr;rw[← hr.2];simp[zeros]),hq⟩
theorem sq_lt {n i k : Nat} (hi:i < n) (hk:k < n):i*n+k < n*n:=by
 have:=Nat.mul_le_mul_right n (show i+1≤n by omega)
 rw[Nat.succ_mul] at this
 omega
theorem e129 (n : Nat) (hn:n < 1000000) (H0:PH) (b:Nat) (t:TypeId) (hb:H0 b=some (.cells ⟨[.int .i64 n]⟩ t (0,0))) :
 Iter Tryz.prog H0 (.func (.func 129) #[] #[.pointer (some ⟨b,0,none⟩)]) (placesN 0 (List.replicate n n)):=by
 refine⟨129,[],[_],rfl,fun H hH l M J Jx hJ hup hy=>?_⟩
 have hget:∀ i k,i < n→k < n→(placesN 0 (List.replicate n n))[i*n+k]?=some [place i k]:=fun i k hi hk=>by
  have:=(placesN_uniform (sq_lt hi hk)).2.2
  rw[(divmod hk).1,(divmod hk).2] at this
  exact this
 refine Cl_of (pol:=polL) Γok Tryz.func129 (by kernel_rfl) rfl ?_
 conv=>whnf
 refine⟨_,Rd.whole (hH _ _ hb),?_⟩
 conv=>whnf
 refine W_loop (pol:=polL) Γok (Nat × PH × PH) (fun i=>i.1≤n∧Sub H i.2.1∧J (i.1*n) i.2.1 i.2.2) (fun i=>n - i.1) (fun i=>[(6,.v (.int .i64 i.1))]) (fun _=>[]) (fun i=>i.2.1) (fun i=>i.2.2) ⟨(0,H,M),⟨by simp,Sub.refl _,by simpa using hJ⟩,rfl,rfl,?_⟩ ?_
 ·conv=>whnf
  repeat (refine⟨rfl,?_⟩;conv=>whnf)
  exact trivial
 ·rintro ⟨i,H',M'⟩ ⟨h1,h2,h3⟩
  dsimp only at h1 h2 h3
  conv=>whnf
  refine if_intro (fun h=>?_) (fun h=>?_)
  ·have hi:i < n:=by simpa using h
   conv=>whnf
   refine⟨_,Rd.whole (h2 _ _ (hH _ _ hb)),?_⟩
   conv=>whnf
   refine W_loopX (pol:=polL) Γok (Nat × PH × PH) (fun k=>k.1≤n∧Sub H k.2.1∧J (i*n+k.1) k.2.1 k.2.2) (fun k=>n - k.1) (fun e k=>e=.exit 2∧Sub H k.2.1∧J ((i+1)*n) k.2.1 k.2.2) (fun k=>[(10,.v (.int .i64 k.1))]) (fun _=>[]) (fun k=>k.2.1) (fun k=>k.2.2) ⟨(0,H',M'),⟨by simp,h2,by simpa using h3⟩,rfl,rfl,?_⟩ ?_ ?_
   ·conv=>whnf
    repeat (refine⟨rfl,?_⟩;conv=>whnf)
    exact trivial
   ·rintro ⟨k,H2,M2⟩ ⟨k1,k2,k3⟩
    dsimp only at k1 k2 k3
    conv=>whnf
    refine if_intro (fun h=>?_) (fun h=>?_)
    ·have hk:k < n:=by simpa using h
     conv=>whnf
     refine (hy _ _ (hget i k hi hk) _ _ k2 k3).mono fun r H3 M3 hs hq=>?_
     rcases hq with⟨rfl,hJ'⟩ | ⟨rfl,hX⟩
     ·conv=>whnf
      refine⟨(k+1,H3,M3),⟨hk,k2.trans hs,hJ'⟩,by dsimp only;omega,?_⟩
      conv=>whnf
      refine⟨rfl,rfl,?_⟩
      conv=>whnf
      repeat (refine⟨rfl,?_⟩;conv=>whnf)
      refine⟨by show En.v (.int .i64 (IntKind.i64.wrap (k+1)))=_;rw[wrap_id (by omega) (by omega)]<;>rfl,?_⟩
      conv=>whnf
      repeat (refine⟨rfl,?_⟩;conv=>whnf)
      exact trivial
     ·conv=>whnf
      refine .inl ?_
      conv=>whnf
      exact .inr hX
    ·have hk:k=n:=by simp at h;omega
     conv=>whnf
     refine .inr ⟨(k,H2,M2),⟨rfl,k2,?_⟩,?_⟩
     ·rw[Nat.succ_mul,← hk];rw[hk] at k3 ⊢;exact k3
     ·conv=>whnf
      refine⟨rfl,rfl,?_⟩
      conv=>whnf
      repeat (refine⟨rfl,?_⟩;conv=>whnf)
      exact trivial
   ·rintro e ⟨k,H2,M2⟩ ⟨rfl,k2,k3⟩
    conv=>whnf
    refine⟨(i+1,H2,M2),⟨hi,k2,k3⟩,by dsimp only;omega,?_⟩
    conv=>whnf
    refine⟨rfl,rfl,?_⟩
    conv=>whnf
    repeat (refine⟨rfl,?_⟩;conv=>whnf)
    refine⟨by show En.v (.int .i64 (IntKind.i64.wrap (i+1)))=_;rw[wrap_id (by omega) (by omega)]<;>rfl,?_⟩
    conv=>whnf
    repeat (refine⟨rfl,?_⟩;conv=>whnf)
    exact trivial
  ·conv=>whnf
   have hi:i=n:=by simp at h;omega
   refine .inl ?_
   rw[placesN_uniform_length]
   rw[hi] at h3
   exact h3
theorem e67 (n : Nat) (hn:n < 1000000) (H:PH):Cl Tryz.prog 67 [.int .i64 n] H emp fun r H' _=>Iter Tryz.prog H' r (placesN 0 (List.replicate n n)):=by
 refine Cl_of (pol:=fun _=>.imm) Γok Tryz.func67 (by kernel_rfl) rfl ?_
 conv=>whnf
 intro b hb hO
 conv=>whnf
 exact e129 n hn _ b _ (ins_same _ _ _)
theorem eqCells_ints : ∀ {l m:List Int},eqCells (l.map fun x=>.int .i64 x) (m.map fun x=>.int .i64 x)=decide (l=m)
 | [],[]=>rfl
 | [],_::_=>rfl
 | _::_,[]=>rfl
 | x::l,y::m=>by
  show ((x == y) && eqCells _ _)=_
  rw[eqCells_ints]
  by_cases h:x=y
  ·subst h
   by_cases h2:l=m
   ·subst h2;simp
   ·simp[h2]
  ·simp[h]
theorem P4.list_inj {p q : P4}:p.list=q.list ↔ p=q:=by
 constructor
 ·intro h
  obtain⟨a,b,c,d⟩:=p
  obtain⟨a',b',c',d'⟩:=q
  simp only[P4.list,List.cons.injEq,and_true] at h
  obtain⟨rfl,rfl,rfl,rfl⟩:=h
  rfl
 ·intro h;rw[h]
theorem e138 (p : P4) (H:PH):Cl Tryz.prog 138 [p.v] H emp fun r _ _=>r=.bool (decide (p=conjP p)):=by
 refine Cl_of (pol:=polL) Γok Tryz.func138 (by kernel_rfl) rfl ?_
 conv=>whnf
 intro b
 conv=>whnf
 refine W_draw (pol:=polL) Γok mixes [(0,.pend),(1,.pendO),(2,.lock),(3,.pendO),(4,.pendO)] 7 (by kernel_rfl) rfl ?_
 conv=>whnf
 refine (c171 p _).val fun H1 s1=>?_
 conv=>whnf
 show Value.bool (eqCells (p.list.map fun x=>.int .i64 x) ((conjP p).list.map fun x=>.int .i64 x))=_
 rw[eqCells_ints]
 congr 1
 rw[decide_eq_decide]
 exact P4.list_inj
theorem e73 (x : P4 × Int) (H:PH):Cl Tryz.prog 73 [nv x] H emp fun r _ _=>r=.tuple #[.bool (if checkF x.1 x.2 ≠ 0 then false else realF x),.int .i64 (checkF x.1 x.2)]:=by
 refine Cl_of (pol:=polL) Γok Tryz.func73 (by kernel_rfl) rfl ?_
 conv=>whnf
 intro b
 conv=>whnf
 refine (c93 x.1 x.2 _).val fun H1 s1=>?_
 conv=>whnf
 refine if_intro (fun he=>?_) (fun he=>?_)
 ·conv=>whnf
  rw[if_pos (show checkF x.1 x.2 ≠ 0 by simpa using he)]
 have h0:checkF x.1 x.2=0:=by simpa using he
 rw[h0,if_neg (by simp)]
 conv=>whnf
 refine (c151 x.1 x.2 _).val fun H2 s2=>?_
 conv=>whnf
 refine (c157 x.1 x.2 _).val fun H3 s3=>?_
 conv=>whnf
 refine (e138 x.1 _).val fun H4 s4=>?_
 conv=>whnf
 rfl
theorem real_eq {x : P4 × Int} (h:checkF x.1 x.2=0):eqN (formR x.1 x.2) (formR (conjP x.1) x.2)=realF x:=by
 have r:=right_in h
 have hw:conjP x.1=cz x.1:=by
  have hb:=r.2.2
  unfold P4.within at hb
  unfold conjP cz
  rw[wr_id (by omega) (by omega),wr_id (by omega) (by omega),wr_id (by omega) (by omega)]
  apply P4.ext'<;>dsimp only<;>omega
 rw[hw]
 unfold realF
 rw[hw,Bool.eq_iff_iff,eqN_iff,decide_eq_true_iff]
 have hf:x.1.fine:=fine_of (within_mono r.2.2 (by decide))
 have hfc:(cz x.1).fine:=fine_of (within_mono (cz_within r.2.2) (by decide))
 constructor
 ·intro e
  have e:=congrArg (lv 60) e
  rw[(lv_form (N:=60) hf r.1 (by omega)).1,(lv_form (N:=60) hfc r.1 (by omega)).1] at e
  exact rz_inj _ e
 ·intro e
  exact congrArg (fun p=>formR p x.2) e
theorem e63 (x : P4 × Int) (H:PH):Cl Tryz.prog 63 [nv x] H emp fun r _ _=>r=.tuple #[.bool (if checkF x.1 x.2 ≠ 0 then false else realF x),.int .i64 (checkF x.1 x.2)]:=by
 refine Cl_of (pol:=polL) Γok Tryz.func63 (by kernel_rfl) rfl ?_
 conv=>whnf
 intro b
 conv=>whnf
 refine (c108 x.1 x.2 _).val fun H1 s1=>?_
 rw[← checkF_checkR]
 conv=>whnf
 refine if_intro (fun he=>?_) (fun he=>?_)
 ·conv=>whnf
  rw[if_pos (show checkF x.1 x.2 ≠ 0 by simpa using he)]
 have h0:checkF x.1 x.2=0:=by simpa using he
 rw[h0,if_neg (by simp)]
 have hr:=right_in h0
 conv=>whnf
 refine W_draw (pol:=polL) Γok mixes [(0,.pend),(1,.pendO),(2,.lock),(3,.lock),(4,.pendO),(5,.pendO)] 14 (by kernel_rfl) rfl ?_
 conv=>whnf
 refine (c169 x.1 x.2 _).val fun H2 s2=>?_
 conv=>whnf
 refine (c100 x (conjP x.1,x.2) ⟨by omega,by omega⟩ ⟨by dsimp only;omega,by dsimp only;omega⟩ _).val fun H3 s3=>?_
 conv=>whnf
 rw[real_eq h0]
theorem OwnB.rowI {M O : PH} {bs:List Nat} {b0 h w:Nat} {m:Mx} (hm:OwnB M bs b0 h w m) (hO:O b0=M b0) {i:Nat} (hi:i < h) (H:PH) :
 ∃ b r,bs[i]?=some b∧m[i]?=some r∧r.length=w∧b ≠ b0∧M b=some (.cells ⟨cellsN r⟩ 25 (0,0))∧Rd H O ⟨b0,0+i*1,none⟩ 1 [.slice (some ⟨b,0,none⟩) w w]:=by
 obtain⟨b,r,h1,h2,h3,h4,h5,h6,h7,c,t,fr,h8,h9⟩:=hm.row hi emp
 refine⟨b,r,h1,h2,h3,h4,h5,h6,h7,c,t,fr,?_,h9⟩
 rcases h8 with h8 | h8
 ·cases h8
 ·exact .inr (hO.trans h8)
set_option maxHeartbeats 2000000 in
theorem e15 (l : Vec) (hl:l.length < 9223372036854775808) (H:PH) (v:Value) (hv:NumH H v l):Cl Tryz.prog 15 [v] H emp fun r _ M'=>OutO M' r (ofV l):=by
 obtain⟨base,cap,rfl,_⟩:=id hv
 refine Cl_of (pol:=polL) Γok Tryz.func15 (by kernel_rfl) rfl ?_
 conv=>whnf
 intro b1
 conv=>whnf
 intro b2
 conv=>whnf
 intro b3
 conv=>whnf
 have hc:=d44 l hl H _ hv
 by_cases h0:stErr l ≠ 0
 ·rw[show wiresI l=(0,stErr l) from if_pos h0] at hc
  rw[show ofV l=([],stErr l) from if_pos h0]
  refine hc.val fun H1 s1=>?_
  conv=>whnf
  refine if_intro (fun he=>?_) (fun he=>?_)
  ·conv=>whnf
   exact⟨_,rfl,.inl ⟨rfl,rfl⟩⟩
  ·exact absurd (by simpa using he) h0
 rw[show wiresI l=(sizeI l.length,0) from if_neg h0] at hc
 have h0':stErr l=0:=by simpa using h0
 refine hc.val fun H1 s1=>?_
 conv=>whnf
 refine if_intro (fun h4=>?_) (fun h4=>?_)
 ·conv=>whnf
  rw[show ofV l=([],3) by unfold ofV;rw[if_neg h0,if_pos (of_decide_eq_true h4)]]
  exact⟨_,rfl,.inl ⟨rfl,rfl⟩⟩
 have h4:=of_decide_eq_false h4
 rw[show ofV l=resM 0 (ofAt l) l.length l.length by unfold ofV;rw[if_neg h0,if_neg h4]]
 have hs0:¬ sizeI l.length < 0:=fun h=>by unfold stErr at h0';rw[if_pos h] at h0';cases h0'
 obtain⟨q,q1,q2,q3⟩:=size_some hs0
 have hn:l.length≤16:=by
  rw[q2]
  exact pow_le16 (by omega)
 conv=>whnf
 refine (e66 l.length (by omega) _).mono fun r H2 M2 s2 hr=>?_
 obtain⟨_,hr⟩:=hr
 obtain⟨bs,b0,rfl,hrows⟩:=hr.ownB
 conv=>whnf
 intro b6
 conv=>whnf
 refine (e67 l.length (by omega) _).use fun it H3 s3 hit=>?_
 obtain⟨_,hit⟩:=hit
 conv=>whnf
 have hv3:=((NumH.up hv s1).up s2).up s3
 refine W_range (pol:=polL) Γok (placesN 0 (List.replicate l.length l.length)) hit (PH × Int) (fun n x H'=>x.2=0∧OwnB x.1 bs b0 l.length l.length (fills (ofAt l) l.length l.length n)∧firstErr (errsE (ofAt l) l.length l.length)=firstErr ((errsE (ofAt l) l.length l.length).drop n)) (fun e x _=>e=.ret∧x.2=firstErr (errsE (ofAt l) l.length l.length)∧x.2 ≠ 0) (fun x=>[(2,[.int .i64 x.2])]) (fun x=>x.1) (fun _ _ _ _ _ h=>h) (fun _ _ _ _ _ h=>h) ⟨(M2,0),⟨rfl,hrows,by simp⟩,rfl,?_⟩ ?_ ?_ ?_
 ·conv=>whnf
 ·rintro n x hx ⟨O,e⟩ H' hs' ⟨he,hrw,hn'⟩ y o o' hy
  dsimp only at he hrw hy
  subst he
  have hlt:n < l.length*l.length:=by
   rw[← placesN_uniform_length l.length l.length]
   exact (List.getElem?_eq_some_iff.1 hx).1
  obtain⟨g1,g2,g3⟩:=placesN_uniform hlt
  rw[g3] at hx
  cases hx
  have hst:=errsE_step (F:=ofAt l) hlt
  have hv':=NumH.up hv3 hs'
  obtain⟨ob1,oo1,e1,hx1⟩:=NumH.at hv' g2
  obtain⟨ob2,oo2,e2,hx2⟩:=NumH.at hv' g1
  subst e1
  cases e2
  conv=>whnf
  intro b7
  conv=>whnf
  refine⟨rfl,?_⟩
  conv=>whnf
  refine⟨O,rfl,?_⟩
  conv=>whnf
  refine dec_intro (by omega) ?_
  conv=>whnf
  refine⟨_,hx1 _ _ (Sub.refl _),?_⟩
  conv=>whnf
  refine (c122 l[n % l.length] _).val fun Ha sa=>?_
  conv=>whnf
  intro b8
  conv=>whnf
  refine W_draw (pol:=polL) Γok mixes [(0,.pendO),(1,.pendO),(2,.pendO),(3,.pendO),(4,.pendO),(5,.pendO),(6,.lock),(7,.pendO),(8,.pendO),(9,.pendH),(10,.late),(11,.lock),(12,.pendO)] 61 (by kernel_rfl) rfl ?_
  conv=>whnf
  refine dec_intro (by omega) ?_
  conv=>whnf
  refine⟨_,hx2 _ _ sa,?_⟩
  conv=>whnf
  refine (c104 l[n / l.length] (ConjF l[n % l.length]).1 _).val fun Hb sb=>?_
  conv=>whnf
  intro b9
  conv=>whnf
  refine if_intro (fun he=>?_) (fun he=>?_)
  ·conv=>whnf
   have hne:¬ (ofAt l (n / l.length) (n % l.length)).2=0:=by
    unfold ofAt
    rw[atL_get g1,atL_get g2]
    simpa using he
   rw[if_neg hne] at hst
   have hval:(MulF l[n / l.length] (ConjF l[n % l.length]).1).2=(ofAt l (n / l.length) (n % l.length)).2:=by
    unfold ofAt
    rw[atL_get g1,atL_get g2]
   rw[hval]
   refine⟨(O,(ofAt l (n / l.length) (n % l.length)).2),.inr ⟨⟨rfl,(hn'.trans hst).symm,hne⟩,rfl⟩,hy,rfl,?_⟩
   conv=>whnf
   repeat (refine⟨rfl,?_⟩;conv=>whnf)
   exact trivial
  have h0:(ofAt l (n / l.length) (n % l.length)).2=0:=by
   unfold ofAt
   rw[atL_get g1,atL_get g2]
   simpa using he
  rw[if_pos h0] at hst
  have hy0:b0 ≠ y:=fun e=>by rw[← e] at hy;rw[hrw.list] at hy;cases hy
  obtain⟨br,row,hb1,hr1,hrl,hne0,hOb,hRd⟩:=hrw.rowI (O:=ins O y o') (ins_ne _ _ hy0) g1 Hb
  have hbl:br ≠ y:=fun e=>by rw[e,hy] at hOb;cases hOb
  conv=>whnf
  refine W_draw (pol:=polL) Γok mixes [(0,.pendO),(1,.pendO),(2,.pendO),(3,.pendO),(4,.pendO),(5,.pendO),(6,.pendO),(7,.pendO),(8,.pendO),(9,.lock)] 61 (by kernel_rfl) rfl ?_
  conv=>whnf
  refine dec_intro (by omega) ?_
  conv=>whnf
  refine⟨_,hRd,?_⟩
  conv=>whnf
  refine dec_intro (by omega) ?_
  conv=>whnf
  refine⟨_,_,(ins_ne _ _ hbl).trans hOb,?_,?_⟩
  ·show _≤(cellsN _).length
   rw[cellsN_length,hrl]
   simp only[Int.toNat_natCast,List.length_cons,List.length_nil]
   omega
  conv=>whnf
  have hval:(MulF l[n / l.length] (ConjF l[n % l.length]).1).1=(ofAt l (n / l.length) (n % l.length)).1:=by
   unfold ofAt
   rw[atL_get g1,atL_get g2]
  refine⟨(ins O br (.cells ⟨(cellsN row).take (0+(n % l.length)*5)++cellsOf (ofAt l (n / l.length) (n % l.length)).1++(cellsN row).drop (0+(n % l.length)*5+5)⟩ 25 (0,0)),0),.inl ⟨rfl,rfl,hrw.set hb1 hr1 (by omega) _,hn'.trans hst⟩,?_,?_,?_⟩
  ·dsimp only
   rw[ins_ne _ _ hbl.symm];exact hy
  ·dsimp only
   rw[ins_comm O _ _ hbl,← hval]
   rfl
  conv=>whnf
  repeat (refine⟨rfl,?_⟩;conv=>whnf)
  exact trivial
 ·rintro ⟨O,e⟩ H' hs' ⟨he,hrw,hn'⟩
  dsimp only at he hrw
  subst he
  rw[List.drop_of_length_le (by rw[placesN_uniform_length];simp[errsE])] at hn'
  conv=>whnf
  rw[placesN_uniform_length] at hrw
  rw[fills_grid] at hrw
  rw[resM_ok rfl hn']
  exact⟨_,rfl,.inr ⟨l.length,l.length,by omega,by omega,hrw.ownM⟩⟩
 ·rintro e ⟨O,e'⟩ H' hs' ⟨rfl,he,hne⟩
  dsimp only at he hne
  conv=>whnf
  subst he
  rw[resM_err rfl rfl hne]
  exact⟨_,rfl,.inl ⟨rfl,rfl⟩⟩
def colM (l : Vec):Mx:=l.map fun x=>[x]
theorem mulR_bad {x y : P4 × Int} (h:(MulR x y).2 ≠ 0):MulR x y=((P4.zero,0),(MulR x y).2):=by
 unfold MulR at h ⊢
 split
 ·rfl
 ·rename_i h'
  rw[if_neg h'] at h
  unfold fitsR at h ⊢
  split
  ·rfl
  ·rename_i h2;rw[if_neg h2] at h;exact absurd rfl h
theorem dot_one (x y : Nat→P4 × Int):dotR x y 1=MulR (x 0) (y 0):=by
 show (if (((P4.zero,0),0):(P4 × Int) × Int).2=0 then dotStepR _ (x 0) (decide (0=0)) (y 0) else _)=_
 rw[if_pos rfl]
 unfold dotStepR
 dsimp only
 by_cases h:(MulR (x 0) (y 0)).2=0
 ·rw[if_pos h]
  simp only[decide_true,if_true]
  rw[if_pos h]
  exact Prod.ext rfl h.symm
 ·rw[if_neg h,if_neg h]
  exact (mulR_bad h).symm
theorem errsR_zero {l : Vec} (h:errsR l=0) {i:Nat} (hi:i < l.length):checkF l[i].1 l[i].2=0:=by
 rw[checkF_checkR]
 exact firstErr_zero h _ (List.mem_map.2 ⟨l[i],List.getElem_mem hi,rfl⟩)
theorem col_get {l : Vec} {i:Nat} (hi:i < l.length):entry (colM l) i 0=l[i]:=by
 unfold entry colM
 simp[List.getD_eq_getElem?_getD,hi]
theorem col_ok {l : Vec} (h1:0 < l.length) (h2:l.length≤64) (he:errsR l=0):checkMF (colM l)=0∧(colM l).length=l.length∧wideM (colM l)=1:=by
 have hl:(colM l).length=l.length:=by simp[colM]
 have hw:wideM (colM l)=1:=by
  rw[wideM_get (by rw[hl];exact h1)]
  simp[colM]
 refine⟨check_grid ⟨by rw[hl];exact h1,by rw[hl];exact h2,fun r hr=>?_,by omega,by omega⟩ fun i k hi hk=>?_,hl,hw⟩
 ·rw[hw]
  unfold colM at hr
  obtain⟨x,_,rfl⟩:=List.mem_map.1 hr
  rfl
 ·rw[hw] at hk
  have hk0:k=0:=by omega
  subst hk0
  rw[hl] at hi
  rw[col_get hi]
  exact errsR_zero he hi
theorem of_ref {l : Vec} (h1:0 < l.length) (h2:l.length≤64) (he:errsR l=0):MulMR (colM l) (DaggerMR (colM l)).1=resM 0 (ofAt l) l.length l.length:=by
 obtain⟨c1,c2,c3⟩:=col_ok h1 h2 he
 obtain⟨ed,cd⟩:=dag_ok c1
 rw[← DaggerM_eq]
 rw[ed] at cd ⊢
 dsimp only at cd ⊢
 rw[c3,c2] at cd ⊢
 have hr:=(grid_right (daggerAtR (colM l)) (h:=1) (w:=l.length) (by omega) (by omega) h1 h2).2
 have hl:=gridM_len (daggerAtR (colM l)) 1 l.length
 unfold MulMR
 rw[c2,hr]
 refine resM_congr ?_ fun _ i k hi hk=>?_
 ·unfold mulErr bothErr errsM
  rw[show firstErr ([colM l,gridM (daggerAtR (colM l)) 1 l.length].map checkMF)=0 by simp[firstErr,c1,cd]]
  rw[c3,hl]
  rfl
 ·unfold mulAtR ofAt
  have e1:(colM l).getD i []=[l[i]]:=by
   unfold colM
   simp[List.getD_eq_getElem?_getD,hi]
  rw[e1]
  show dotR _ _ 1=_
  rw[dot_one,Mul_eq,Conj_eq,atL_get hi,atL_get hk]
  congr 1
  have e2:atL (colL (gridM (daggerAtR (colM l)) 1 l.length) k) 0=entry (gridM (daggerAtR (colM l)) 1 l.length) 0 k:=rfl
  rw[e2,gridM_entry _ (by omega) hk]
  unfold daggerAtR
  rw[col_get hk]
theorem e12 (l : Vec) (hl:l.length < 9223372036854775808) (H:PH) (v:Value) (hv:NumH H v l):Cl Tryz.prog 12 [v] H emp fun r H' _=>OutH H' r (ofV l):=by
 obtain⟨base,cap,rfl,_⟩:=id hv
 refine Cl_of (pol:=fun | 29=>.imm | 30=>.imm | _=>.loc) Γok Tryz.func12 (by kernel_rfl) rfl ?_
 conv=>whnf
 refine (d49 l hl _ _ hv).val fun H1 s1=>?_
 conv=>whnf
 refine if_intro (fun he=>?_) (fun he=>?_)
 ·have h0:stErr l ≠ 0:=by simpa using he
  rw[show ofV l=([],stErr l) from if_pos h0]
  conv=>whnf
  exact OutH.bad
 have h0:stErr l=0:=by simpa using he
 conv=>whnf
 refine (d72 l.length _).val fun H2 s2=>?_
 conv=>whnf
 refine if_intro (fun h4=>?_) (fun h4=>?_)
 ·rw[show ofV l=([],3) by unfold ofV;rw[if_neg (by rw[h0];simp),if_pos (of_decide_eq_true h4)]]
  conv=>whnf
  exact OutH.bad
 have h4:=of_decide_eq_false h4
 rw[show ofV l=resM 0 (ofAt l) l.length l.length by unfold ofV;rw[if_neg (by rw[h0];simp),if_neg h4]]
 have hs0:¬ sizeI l.length < 0:=fun h=>by unfold stErr at h0;rw[if_pos h] at h0;cases h0
 have he0:errsR l=0:=by unfold stErr at h0;rw[if_neg hs0] at h0;exact h0
 obtain⟨q,q1,q2,q3⟩:=size_some hs0
 have hn:l.length≤16:=by
  rw[q2]
  exact pow_le16 (by omega)
 have hn0:0 < l.length:=by rw[q2];exact Nat.pow_pos (by decide)
 rw[← of_ref hn0 (by omega) he0]
 have hv2:=(NumH.up hv s1).up s2
 conv=>whnf
 refine W_repart ?_
 refine W_loop (pol:=fun | 29=>.imm | 30=>.imm | _=>.loc) Γok (Nat × PH × Value × PH) (fun i=>i.1≤l.length∧Sub H2 i.2.1∧∃ us,OwnS i.2.2.2 1 22 i.2.2.1 (us.map fun u=>[u])∧RowsH i.2.1 us (colM (l.take i.1))) (fun i=>l.length - i.1) (fun i=>[(6,.v (.int .i64 i.1)),(5,.v i.2.2.1)]) (fun _=>[]) (fun i=>i.2.1) (fun i=>i.2.2.2) ⟨(0,H2,.slice none 0 0,emp),⟨by simp,Sub.refl _,[],?_,?_⟩,rfl,rfl,?_⟩ ?_
 ·exact⟨by simp,.inl ⟨rfl,by simp⟩⟩
 ·exact⟨by simp[colM],by simp[colM]⟩
 ·conv=>whnf
  repeat (refine⟨rfl,?_⟩;conv=>whnf)
  exact trivial
 rintro ⟨i,H',out,O'⟩ ⟨h1,h2,us,h3,h4⟩
 dsimp only at h1 h2 h3 h4
 conv=>whnf
 refine if_intro (fun h=>?_) (fun h=>?_)
 ·have hi:i < l.length:=by
   have:=of_decide_eq_true h
   omega
  obtain⟨ob1,oo1,e1,hx1⟩:=NumH.at hv2 hi
  subst e1
  conv=>whnf
  refine dec_intro (by omega) ?_
  conv=>whnf
  refine⟨_,hx1 _ _ h2,?_⟩
  conv=>whnf
  intro b1 hb1 hO1
  conv=>whnf
  intro b2 hb2 hO2
  conv=>whnf
  have hb1':=ins_ne (H') (n:=b1) (k:=b2) (.cells ⟨cellsOf l[i]⟩ 25 (0,0))
  have sA:=sub_ins H' (.cells ⟨cellsOf l[i]⟩ 25 (0,0)) hb1
  have sB:=sub_ins _ (.cells ⟨[.slice (some ⟨b1,0,none⟩) 1 1]⟩ 22 (0,0)) hb2
  refine append_one (xs:=us.map fun u=>[u]) (y:=[.slice (some ⟨b1,0,none⟩) 1 1]) h3 rfl rfl (fun v hv=>by simp at hv;subst hv;rfl) ⟨_,_,_,rfl,rfl,Rd.whole (ins_same _ _ _)⟩ ?_ fun v O2 hO2 hfr=>?_
  ·have:=h4.1
   simp[colM] at this ⊢
   omega
  conv=>whnf
  refine⟨(i+1,ins (ins H' b1 (.cells ⟨cellsOf l[i]⟩ 25 (0,0))) b2 (.cells ⟨[.slice (some ⟨b1,0,none⟩) 1 1]⟩ 22 (0,0)),v,O2),⟨hi,(h2.trans sA).trans sB,us++[.slice (some ⟨b1,0,none⟩) 1 1],?_,?_⟩,by dsimp only;omega,?_⟩
  ·show OwnS O2 1 22 v _
   rw[List.map_append]
   exact hO2
  ·dsimp only
   have:colM (l.take (i+1))=colM (l.take i)++[[l[i]]]:=by
    unfold colM
    rw[List.take_succ_eq_append_getElem hi,List.map_append]
    rfl
   rw[this]
   refine (h4.up (sA.trans sB)).snoc ⟨_,_,rfl,.inr ⟨b1,0,_,_,_,rfl,sB _ _ (ins_same _ _ _),?_⟩⟩
   simp[cellsN]
   rfl
  ·conv=>whnf
   refine⟨rfl,rfl,?_⟩
   conv=>whnf
   repeat (refine⟨rfl,?_⟩;conv=>whnf)
   refine⟨by show En.v (.int .i64 (IntKind.i64.wrap (i+1)))=_;rw[wrap_id (by omega) (by omega)]<;>rfl,?_⟩
   conv=>whnf
   repeat (refine⟨rfl,?_⟩;conv=>whnf)
   exact trivial
 have hi:i=l.length:=by
  have:=of_decide_eq_false h
  omega
 rw[List.take_of_length_le (by omega)] at h4
 conv=>whnf
 refine .inr fun hd=>?_
 obtain⟨H3,M3,rp,hm⟩:=OwnS.rows hd h3 h4
 refine⟨H3,M3,rp,?_⟩
 obtain⟨obs,n1,c1,rfl⟩:=OwnS.sl h3
 conv=>whnf
 refine (c57 (colM l) _ _ hm).use fun r H4 s4 hr=>?_
 obtain⟨_,u,rfl,hu⟩:=hr
 obtain⟨ub,uc,rfl⟩:=MatH.sl hu
 conv=>whnf
 refine (c36 (colM l) (DaggerMR (colM l)).1 _ _ _ (hm.up s4) hu).use fun r H5 s5 hr=>?_
 obtain⟨_,u2,rfl,hu2⟩:=hr
 obtain⟨ub2,uc2,rfl⟩:=MatH.sl hu2
 conv=>whnf
 exact⟨_,rfl,hu2⟩
def diagP (x : P4 × Int) (w i:Nat):Mx:=diagR (fun _=>x) w i++List.replicate (w - i) (zeros w)
theorem diagP_zero (x : P4 × Int) (w:Nat):diagP x w 0=List.replicate w (zeros w):=by simp[diagP,diagR]
theorem diagP_all (x : P4 × Int) (w:Nat):diagP x w w=diagR (fun _=>x) w w:=by simp[diagP]
theorem diagP_set (x : P4 × Int) {w i:Nat} (hi:i < w):setM (diagP x w i) i i x=diagP x w (i+1):=by
 unfold setM diagP
 have h1:w - i=(w - (i+1))+1:=by omega
 have h2:(diagR (fun _=>x) w i++List.replicate (w - i) (zeros w)).getD i []=zeros w:=by
  rw[List.getD_eq_getElem?_getD,List.getElem?_append_right (by rw[diagR_len];exact Nat.le_refl _),diagR_len,Nat.sub_self,h1,List.replicate_succ]
  rfl
 rw[h2,h1,List.replicate_succ]
 have h3:diagR (fun _=>x) w (i+1)=diagR (fun _=>x) w i++[(zeros w).set i x]:=by
  unfold diagR
  rw[List.range_succ,List.map_append]
  rfl
 rw[h3,List.set_append_right _ _ (by rw[diagR_len];exact Nat.le_refl _),diagR_len,Nat.sub_self]
 simp
theorem root_ok {n : Nat} (h:n≤4):RootF (2*(n:Int))=((⟨1,0,0,0⟩,2*(n:Int)),0):=by
 unfold RootF
 rw[decide_eq_false (by omega),decide_eq_false (by omega)]
 rfl
theorem e66n (n : Nat) (hn:n < 1000000) (H:PH):Cl Tryz.prog 66 [.int .i64 n] H emp fun r H' M'=>∃ bs base cap,r=.slice base n cap∧RowsB H' M' r bs n n (List.replicate n (zeros n))∧ListN H H' r bs n n:=by
 refine (e66 n hn H).repart fun r H' M' hs hd hq=>?_
 obtain⟨_,hq⟩:=hq
 obtain⟨bs,b0,rfl,hB⟩:=hq.ownB
 have hb0:H' b0=none:=(hd b0).resolve_right (by rw[hB.list];simp)
 refine⟨_,_,.one hd hB.list,bs,_,_,rfl,⟨hB.rows.of_sub fun b hb=>del_ne _ fun e=>by subst e;exact hB.nb hb,⟨_,_,rfl,.inr ⟨b0,0,_,_,_,rfl,ins_same _ _ _,?_⟩⟩,hB.len,hB.wid⟩,b0,rfl,?_,ins_same _ _ _⟩
 ·rw[List.drop_zero]
  exact List.take_length
 ·cases e:H b0 with
  | none=>rfl
  | some o=>rw[hs _ _ e] at hb0;cases hb0
set_option maxHeartbeats 1000000 in
theorem e16n (n : Nat) (hn4:n≤4) (H:PH):Cl Tryz.prog 16 [.int .i64 n] H emp fun r H' M'=>∃ u bs,r=.tuple #[u,.int .i64 0]∧RowsB H' M' u bs (2 ^ n) (2 ^ n) (diagP (⟨1,0,0,0⟩,2*n) (2 ^ n) (2 ^ n))∧ListN H H' u bs (2 ^ n) (2 ^ n):=by
 have hN:=pow_le16 hn4
 refine Cl_of (pol:=polL) Γok Tryz.func16 (by kernel_rfl) rfl ?_
 conv=>whnf
 refine if_intro (fun h=>?_) (fun h'=>?_)
 ·exact absurd (of_decide_eq_true h) (by omega)
 conv=>whnf
 rw[shl_nat (by omega)]
 conv=>whnf
 refine (e66n (2 ^ n) (by omega) _).mono fun r H2 M2 s2 hr=>?_
 obtain⟨bs,ob,oc,rfl,hrows,hlist⟩:=hr
 conv=>whnf
 refine W_loop (pol:=polL) Γok (Nat × PH × PH) (fun i=>i.1≤2 ^ n∧Sub H2 i.2.1∧RowsB i.2.1 i.2.2 (.slice ob (2 ^ n) oc) bs (2 ^ n) (2 ^ n) (diagP (⟨1,0,0,0⟩,2*n) (2 ^ n) i.1)) (fun i=>2 ^ n - i.1) (fun i=>[(17,.v (.int .i64 i.1))]) (fun _=>[]) (fun i=>i.2.1) (fun i=>i.2.2) ⟨(0,H2,M2),⟨by simp,Sub.refl _,by rw[diagP_zero];exact hrows⟩,rfl,rfl,?_⟩ ?_
 ·conv=>whnf
  repeat (refine⟨rfl,?_⟩;conv=>whnf)
  exact trivial
 rintro ⟨i,H',O⟩ ⟨h1,h2,h3⟩
 dsimp only at h1 h2 h3
 conv=>whnf
 refine if_intro (fun hc=>?_) (fun hc=>?_)
 ·have hi:i < 2 ^ n:=by
   have:=of_decide_eq_true hc
   omega
  obtain⟨rb,ro,br,row,re,hb1,hr1,hrl,hOb,hRd⟩:=h3.row hi
  subst re
  conv=>whnf
  refine W_draw (pol:=polL) Γok mixes [(0,.pend),(1,.pend),(2,.pend),(3,.pend),(4,.pend),(5,.pendO),(6,.pendO),(7,.lock),(8,.pendO),(9,.pendO),(10,.pendH),(11,.pendO),(12,.lock)] 34 (by kernel_rfl) rfl ?_
  conv=>whnf
  refine dec_intro (by omega) ?_
  conv=>whnf
  refine⟨_,hRd _,?_⟩
  conv=>whnf
  rw[wrap_id (n:=2*(n:Int)) (by omega) (by omega)]
  refine (c140 (2*n) _).val fun Ha sa=>?_
  rw[root_ok hn4]
  conv=>whnf
  refine dec_intro (by omega) ?_
  conv=>whnf
  refine⟨_,_,hOb,?_,?_⟩
  ·show _≤(cellsN _).length
   rw[cellsN_length,hrl]
   simp only[Int.toNat_natCast,List.length_cons,List.length_nil]
   omega
  conv=>whnf
  have hset:=(h3.up sa).set hb1 hr1 hi (⟨1,0,0,0⟩,2*(n:Int))
  rw[diagP_set _ hi] at hset
  refine⟨(i+1,Ha,ins O br (.cells ⟨(cellsN row).take (0+i*5)++cellsOf (⟨1,0,0,0⟩,2*(n:Int))++(cellsN row).drop (0+i*5+5)⟩ 25 (0,0))),⟨hi,h2.trans sa,hset⟩,by dsimp only;omega,?_⟩
  refine⟨rfl,rfl,?_⟩
  conv=>whnf
  repeat (refine⟨rfl,?_⟩;conv=>whnf)
  refine⟨by show En.v (.int .i64 (IntKind.i64.wrap (i+1)))=_;rw[wrap_id (by omega) (by omega)]<;>rfl,?_⟩
  conv=>whnf
  repeat (refine⟨rfl,?_⟩;conv=>whnf)
  exact trivial
 have hi:i=2 ^ n:=by
  have:=of_decide_eq_false hc
  omega
 subst hi
 conv=>whnf
 exact⟨_,bs,rfl,h3,hlist.up h2⟩
theorem e16 (k : Int) (hk:-9223372036854775808≤k∧k < 9223372036854775808) (H:PH):Cl Tryz.prog 16 [.int .i64 k] H emp fun r _ M'=>OutO M' r (mixedI k):=by
 by_cases h:k < 0∨k > 4
 ·rw[show mixedI k=([],3) from if_pos h]
  refine Cl_of (pol:=polL) Γok Tryz.func16 (by kernel_rfl) rfl ?_
  conv=>whnf
  refine if_intro (fun h1=>?_) (fun h1=>?_)
  ·conv=>whnf
   exact⟨_,rfl,.inl ⟨rfl,rfl⟩⟩
  have h1:=of_decide_eq_false h1
  conv=>whnf
  refine if_intro (fun h'=>?_) (fun h'=>?_)
  ·conv=>whnf
   exact⟨_,rfl,.inl ⟨rfl,rfl⟩⟩
  exact absurd h fun e=>e.elim h1 (of_decide_eq_false h')
 ·obtain⟨n,rfl⟩:∃ n:Nat,k=n:=⟨k.toNat,by omega⟩
  have hn4:n≤4:=by omega
  have hN:=pow_le16 hn4
  rw[show mixedI n=(diagP (⟨1,0,0,0⟩,2*n) (2 ^ n) (2 ^ n),0) by rw[diagP_all];exact if_neg h]
  refine (Cl.mine (Q:=fun r u=>r=.tuple #[u,.int .i64 0]) (m:=diagP (⟨1,0,0,0⟩,2*n) (2 ^ n) (2 ^ n)) ((e16n n hn4 H).repart fun r H' M' hs hd hq=>?_)).mono fun r H' M' _ hq=>?_
  ·obtain⟨u,bs,rfl,h1,h2⟩:=hq
   exact⟨_,_,.all hd,u,rfl,RowsB.new hs hd (by omega) (by omega) h1 h2⟩
  ·obtain⟨u,rfl,hu⟩:=hq
   exact⟨u,rfl,hu⟩
theorem mixed_ref : ∀ n:Nat,n < 5→ScaleMF (diagR (fun _=>oneN) (2 ^ n) (2 ^ n)) (⟨1,0,0,0⟩,2*(n:Int))=(diagR (fun _=>(⟨1,0,0,0⟩,2*(n:Int))) (2 ^ n) (2 ^ n),0):=by
 decide +kernel
theorem e13 (k : Int) (hk:-9223372036854775808≤k∧k < 9223372036854775808) (H:PH):Cl Tryz.prog 13 [.int .i64 k] H emp fun r H' _=>OutH H' r (mixedI k):=by
 refine Cl_of (pol:=polL) Γok Tryz.func13 (by kernel_rfl) rfl ?_
 conv=>whnf
 refine if_intro (fun h=>?_) (fun h=>?_)
 ·have h:=of_decide_eq_true h
  rw[show mixedI k=([],3) from if_pos (.inl h)]
  conv=>whnf
  exact OutH.bad
 have h:=of_decide_eq_false h
 conv=>whnf
 refine if_intro (fun h'=>?_) (fun h'=>?_)
 ·have h':=of_decide_eq_true h'
  rw[show mixedI k=([],3) from if_pos (.inr h')]
  conv=>whnf
  exact OutH.bad
 have h':=of_decide_eq_false h'
 obtain⟨n,rfl⟩:∃ n:Nat,k=n:=⟨k.toNat,by omega⟩
 have hn4:n≤4:=by omega
 have hm:=mixed_ref n (by omega)
 rw[show mixedI n=(diagR (fun _=>(⟨1,0,0,0⟩,2*(n:Int))) (2 ^ n) (2 ^ n),0) from if_neg (fun e=>e.elim h h'),← hm,ScaleM_eq]
 conv=>whnf
 have hc:=Cl.outH (c17o n H)
 rw[show IdMR n=(diagR (fun _=>oneN) (2 ^ n) (2 ^ n),0) from if_neg (by omega)] at hc
 refine hc.use fun r H2 s2 hr=>?_
 obtain⟨_,u,rfl,hu⟩:=hr
 obtain⟨ub,uc,rfl⟩:=MatH.sl hu
 conv=>whnf
 rw[wrap_id (n:=2*(n:Int)) (by omega) (by omega)]
 refine (c38 (diagR (fun _=>oneN) (2 ^ n) (2 ^ n)) (⟨1,0,0,0⟩,2*n) _ _ hu).use fun r H3 s3 hr=>?_
 obtain⟨_,u2,rfl,hu2⟩:=hr
 obtain⟨ub2,uc2,rfl⟩:=MatH.sl hu2
 conv=>whnf
 exact⟨_,rfl,hu2⟩
theorem res_len {n : Nat} {e:Int} {F:Nat→Nat→(P4 × Int) × Int} {h w:Nat} (h0:0 < n) (hh:h < n):(resM e F h w).1.length < n:=by
 unfold resM
 split
 ·exact h0
 split
 ·exact h0
 ·show (gridM F h w).length < n
  rw[gridM_len]
  exact hh
def errsD (ms : List Mx):Int:=firstErr (ms.map denErr)
theorem e71 (ms : List Mx) (hlen:ms.length < 1000000) (hrow:∀ m∈ms,m.length < 1000000) (H:PH) (v:Value) (hv:MatsH H v ms):Cl Tryz.prog 71 [v] H emp fun r _ _=>r=.int .i64 (errsD ms):=by
 obtain⟨base,cap,rfl⟩:∃ base cap,v=.slice base ms.length cap:=by
  obtain⟨_,_,⟨b,c,h,_⟩,_⟩:=hv
  exact⟨b,c,h⟩
 refine Cl_of (pol:=polL) Γok Tryz.func71 (by kernel_rfl) rfl ?_
 conv=>whnf
 refine W_loop (pol:=polL) Γok (Nat × PH) (fun i=>i.1≤ms.length∧Sub H i.2∧errsD ms=errsD (ms.drop i.1)) (fun i=>ms.length - i.1) (fun i=>[(8,.v (.int .i64 i.1))]) (fun _=>[]) (fun i=>i.2) (fun _=>emp) ⟨(0,H),⟨by simp,Sub.refl _,by simp⟩,rfl,rfl,?_⟩ ?_
 ·conv=>whnf
  repeat (refine⟨rfl,?_⟩;conv=>whnf)
  exact trivial
 ·rintro ⟨i,H'⟩ ⟨h1,h2,h3⟩
  dsimp only at h1 h2 h3
  conv=>whnf
  refine if_intro (fun h=>?_) (fun h=>?_)
  ·have hi:i < ms.length:=by simpa using h
   obtain⟨b,off,u,rfl,hrd,hu⟩:=(hv.up h2).rd hi
   conv=>whnf
   refine dec_intro (by omega) ?_
   conv=>whnf
   refine⟨_,hrd _,?_⟩
   conv=>whnf
   refine (e48 ms[i] (hrow _ (List.getElem_mem hi)) _ _ hu).val fun H2 hs=>?_
   conv=>whnf
   have hst:=firstErr_step denErr hi
   refine if_intro (fun he=>?_) (fun he=>?_)
   ·conv=>whnf
    rw[h3]
    unfold errsD
    rw[hst,if_neg (by simpa using he)]
   ·conv=>whnf
    refine⟨(i+1,H2),⟨hi,h2.trans hs,?_⟩,by dsimp only;omega,?_⟩
    ·rw[h3]
     unfold errsD
     rw[hst,if_pos (by simpa using he)]
    ·conv=>whnf
     refine⟨rfl,rfl,?_⟩
     conv=>whnf
     repeat (refine⟨rfl,?_⟩;conv=>whnf)
     refine⟨by show En.v (.int .i64 (IntKind.i64.wrap (i+1)))=_;rw[wrap_id (by omega) (by omega)]<;>rfl,?_⟩
     conv=>whnf
     repeat (refine⟨rfl,?_⟩;conv=>whnf)
     exact trivial
  ·have hi:ms.length≤i:=by simpa using h
   conv=>whnf
   rw[h3,List.drop_of_length_le hi]
   rfl
theorem mats2 {H : PH} {b:Nat} {t:TypeId} {u v:Value} {m n:Mx} (hb:H b=some (.cells ⟨[u,v]⟩ t (0,0))) (hu:MatH H u m) (hv:MatH H v n):MatsH H (.slice (some ⟨b,0,none⟩) 2 2) [m,n]:=by
 refine⟨[u,v],rfl,⟨_,_,rfl,.inr ⟨b,0,_,_,_,rfl,hb,rfl⟩⟩,fun i m' u' hm hu'=>?_⟩
 match i with
 | 0=>cases hm;cases hu';exact hu
 | 1=>cases hm;cases hu';exact hv
theorem nums2 {H : PH} {b:Nat} {t:TypeId} {x y:P4 × Int} (hb:H b=some (.cells ⟨cellsOf x++cellsOf y⟩ t (0,0))):NumH H (.slice (some ⟨b,0,none⟩) 2 2) [x,y]:=
 ⟨_,_,rfl,.inr ⟨b,0,_,_,_,rfl,hb,rfl⟩⟩
theorem errsD2 (d o : Mx):errsD [d,o]=if denErr d ≠ 0 then denErr d else denErr o:=by
 unfold errsD
 simp only[List.map_cons,List.map_nil,firstErr]
 by_cases h:denErr d=0
 ·simp[h]
  exact Eq.symm
 ·simp[h]
theorem cellsN_at {l : Vec} {i:Nat} (hi:i < l.length):((cellsN l).drop (0+i*5)).take 5=cellsOf l[i]:=by
 have h:=flat_at (sz:=5) (cs:=l.map cellsOf) (fun c hc=>by obtain⟨x,_,rfl⟩:=List.mem_map.1 hc;rfl) (i:=i) (by simpa using hi)
 rw[Nat.zero_add]
 exact h.trans (by simp)
theorem thenM_ok {x : Mx × Int} {f:Mx→Mx × Int} (h:x.2=0):thenM x f=f x.1:=if_neg (by rw[h];simp)
theorem thenM_bad {x : Mx × Int} {f:Mx→Mx × Int} (h:x.2 ≠ 0):thenM x f=([],x.2):=if_pos h
theorem at_num {L : Vec} {i:Nat} {K:List Value→Prop} (hi:i < L.length) (h:K (cellsOf L[i])):dropK (cellsN L) (0+((i:Nat):Int).toNat*5) fun cs=>takeK cs 5 K:=by
 refine dropK_iff.2 ⟨?_,takeK_iff.2 ⟨?_,?_⟩⟩
 ·rw[cellsN_length,Int.toNat_natCast]
  omega
 ·rw[List.length_drop,cellsN_length,Int.toNat_natCast]
  omega
 ·rw[Int.toNat_natCast,cellsN_at hi]
  exact h
def polMix : Tmp→Pol:=fun | 23=>.imm | 30=>.imm | _=>.loc
set_option maxHeartbeats 2000000 in
theorem e17 (d o : Mx) (x y:P4 × Int) (hd:d.length < 1000000) (ho:o.length < 1000000) (H:PH) (u v:Value) (hu:MatH H u d) (hv:MatH H v o):Cl Tryz.prog 17 [u,v,nv x,nv y] H emp fun r _ M'=>OutO M' r (mixM d o x y):=by
 obtain⟨ub,uc,rfl⟩:=MatH.sl hu
 obtain⟨vb,vc,rfl⟩:=MatH.sl hv
 refine Cl_of (pol:=polMix) Γok Tryz.func17 (by kernel_rfl) rfl ?_
 conv=>whnf
 intro bx
 conv=>whnf
 intro by_
 conv=>whnf
 intro bm hbm hOm
 conv=>whnf
 have sm:=sub_ins H (.cells ⟨[.slice ub d.length uc,.slice vb o.length vc]⟩ 23 (0,0)) hbm
 replace hu:=hu.up sm
 replace hv:=hv.up sm
 refine (e71 [d,o] (by simp) (by simp[hd,ho]) _ _ (mats2 (ins_same _ _ _) hu hv)).val fun H1 s1=>?_
 replace hu:=hu.up s1
 replace hv:=hv.up s1
 rw[errsD2]
 unfold mixM
 by_cases e1:denErr d ≠ 0
 ·rw[if_pos e1,if_pos e1]
  conv=>whnf
  refine if_intro (fun he=>?_) (fun he=>?_)
  ·conv=>whnf
   exact OutO.bad
  ·exact absurd (by simpa using he) e1
 rw[if_neg e1,if_neg e1]
 by_cases e2:denErr o ≠ 0
 ·rw[if_pos e2]
  conv=>whnf
  refine if_intro (fun he=>?_) (fun he=>?_)
  ·conv=>whnf
   exact OutO.bad
  ·exact absurd (by simpa using he) e2
 rw[if_neg e2,show denErr o=0 by simpa using e2]
 conv=>whnf
 intro bn hbn hOn
 conv=>whnf
 have sn:=sub_ins H1 (.cells ⟨cellsOf x++cellsOf y⟩ 25 (0,0)) hbn
 replace hu:=hu.up sn
 replace hv:=hv.up sn
 have hxy:=nums2 (x:=x) (y:=y) (ins_same H1 bn (.cells ⟨cellsOf x++cellsOf y⟩ 25 (0,0)))
 refine W_loop (pol:=polMix) Γok (Nat × PH) (fun i=>i.1≤2∧Sub (ins H1 bn (.cells ⟨cellsOf x++cellsOf y⟩ 25 (0,0))) i.2∧(1≤i.1→checkF x.1 x.2=0)∧(2≤i.1→checkF y.1 y.2=0)) (fun i=>2 - i.1) (fun i=>[(32,.v (.int .i64 i.1))]) (fun _=>[]) (fun i=>i.2) (fun _=>emp) ⟨(0,_),⟨by simp,Sub.refl _,by simp,by simp⟩,rfl,rfl,?_⟩ ?_
 ·conv=>whnf
  repeat (refine⟨rfl,?_⟩;conv=>whnf)
  exact trivial
 rintro ⟨i,H2⟩ ⟨h1,h2,h3,h4⟩
 dsimp only at h1 h2 h3 h4
 conv=>whnf
 refine if_intro (fun hc=>?_) (fun hc=>?_)
 ·have hi:i < 2:=by
   have:=of_decide_eq_true hc
   omega
  have key:∀ z:P4 × Int,[x,y][i]?=some z→∀ K:Prop,(checkF z.1 z.2 ≠ 0→OutO emp (.tuple #[.slice none 0 0,.int .i64 (checkF z.1 z.2)]) (if checkF x.1 x.2 ≠ 0 then ([],checkF x.1 x.2) else if checkF y.1 y.2 ≠ 0 then ([],checkF y.1 y.2) else if realF x=false∨realF y=false∨d.length ≠ o.length then ([],7) else thenM (ScaleMF d x) fun a=>thenM (ScaleMF o y) fun b=>AddMF a b)):=by
   intro z hz K hne
   rcases (show i=0∨i=1 by omega) with rfl | rfl
   ·cases hz
    rw[if_pos hne]
    exact OutO.bad
   ·cases hz
    rw[if_neg (by rw[h3 (by omega)];simp),if_pos hne]
    exact OutO.bad
  conv=>whnf
  refine dec_intro (by omega) ?_
  conv=>whnf
  refine at_num (L:=[x,y]) (by simpa using hi) ?_
  have hz:[x,y][i]?=some ([x,y][i]'(by simpa using hi)):=List.getElem?_eq_getElem _
  generalize ([x,y][i]'(by simpa using hi))=z at hz
  conv=>whnf
  intro bz
  conv=>whnf
  refine (c93 z.1 z.2 _).val fun H3 s3=>?_
  conv=>whnf
  refine if_intro (fun he=>?_) (fun he=>?_)
  ·conv=>whnf
   exact key z hz True (by simpa using he)
  have h0:checkF z.1 z.2=0:=by simpa using he
  conv=>whnf
  refine⟨(i+1,H3),⟨hi,h2.trans s3,fun _=>?_,fun h=>?_⟩,by dsimp only;omega,?_⟩
  ·rcases (show i=0∨i=1 by omega) with rfl | rfl
   ·cases hz;exact h0
   ·exact h3 (by omega)
  ·dsimp only at h
   have:i=1:=by omega
   subst this
   cases hz
   exact h0
  refine⟨rfl,rfl,?_⟩
  conv=>whnf
  repeat (refine⟨rfl,?_⟩;conv=>whnf)
  refine⟨by show En.v (.int .i64 (IntKind.i64.wrap (i+1)))=_;rw[wrap_id (by omega) (by omega)]<;>rfl,?_⟩
  conv=>whnf
  repeat (refine⟨rfl,?_⟩;conv=>whnf)
  exact trivial
 have hi:i=2:=by
  have:=of_decide_eq_false hc
  omega
 subst hi
 have x0:=h3 (by omega)
 have y0:=h4 (by omega)
 rw[if_neg (by rw[x0];simp),if_neg (by rw[y0];simp)]
 replace hu:=hu.up h2
 replace hv:=hv.up h2
 conv=>whnf
 have hcx:=e73 x H2
 rw[x0,if_neg (by simp)] at hcx
 refine hcx.val fun H4 s4=>?_
 replace hu:=hu.up s4
 replace hv:=hv.up s4
 conv=>whnf
 have hcy:=e73 y H4
 rw[y0,if_neg (by simp)] at hcy
 refine hcy.val fun H5 s5=>?_
 replace hu:=hu.up s5
 replace hv:=hv.up s5
 cases rx:realF x with
 | false=>
  rw[if_pos (.inl rfl)]
  conv=>whnf
  exact OutO.bad
 | true=>
 cases ry:realF y with
 | false=>
  rw[if_pos (.inr (.inl rfl))]
  conv=>whnf
  exact OutO.bad
 | true=>
 conv=>whnf
 refine if_intro (fun hl=>?_) (fun hl=>?_)
 ·rw[if_pos (.inr (.inr (by intro e;rw[e] at hl;simp at hl)))]
  conv=>whnf
  exact OutO.bad
 have hl:d.length=o.length:=by
  have:((d.length:Int)=(o.length:Int)):=by simpa using hl
  omega
 rw[if_neg (by simp[hl])]
 conv=>whnf
 refine (Cl.outH (c42 d x hd _ _ hu)).use fun r H6 s6 hr=>?_
 obtain⟨_,ua,rfl,hua⟩:=hr
 obtain⟨ab,ac,rfl⟩:=MatH.sl hua
 replace hv:=hv.up s6
 conv=>whnf
 refine if_intro (fun he=>?_) (fun he=>?_)
 ·rw[thenM_bad (show (ScaleMF d x).2 ≠ 0 by simpa using he)]
  conv=>whnf
  exact OutO.bad
 rw[thenM_ok (show (ScaleMF d x).2=0 by simpa using he)]
 conv=>whnf
 refine (Cl.outH (c42 o y ho _ _ hv)).use fun r H7 s7 hr=>?_
 obtain⟨_,uc2,rfl,huc⟩:=hr
 obtain⟨cb,cc,rfl⟩:=MatH.sl huc
 replace hua:=hua.up s7
 conv=>whnf
 refine if_intro (fun he=>?_) (fun he=>?_)
 ·rw[thenM_bad (show (ScaleMF o y).2 ≠ 0 by simpa using he)]
  conv=>whnf
  exact OutO.bad
 rw[thenM_ok (show (ScaleMF o y).2=0 by simpa using he)]
 conv=>whnf
 refine (c39 (ScaleMF d x).1 (ScaleMF o y).1 (res_len (n:=1000000) (by omega) hd) (res_len (n:=1000000) (by omega) ho) _ _ _ hua huc).mono fun r H8 M8 s8 hr=>?_
 obtain⟨w,rfl,hw⟩:=hr
 obtain⟨wb,wn,wc,rfl⟩:=OwnQ.sl hw
 conv=>whnf
 exact⟨_,rfl,hw⟩
set_option maxHeartbeats 1000000 in
theorem e14 (d o : Mx) (x y:P4 × Int) (H:PH) (u v:Value) (hu:MatH H u d) (hv:MatH H v o):Cl Tryz.prog 14 [u,v,nv x,nv y] H emp fun r H' _=>OutH H' r (mixM d o x y):=by
 obtain⟨ub,uc,rfl⟩:=MatH.sl hu
 obtain⟨vb,vc,rfl⟩:=MatH.sl hv
 refine Cl_of (pol:=polL) Γok Tryz.func14 (by kernel_rfl) rfl ?_
 conv=>whnf
 intro bx
 conv=>whnf
 intro by_
 conv=>whnf
 refine (e49 d _ _ hu).val fun H1 s1=>?_
 replace hu:=hu.up s1
 replace hv:=hv.up s1
 unfold mixM
 conv=>whnf
 refine if_intro (fun he=>?_) (fun he=>?_)
 ·rw[if_pos (show denErr d ≠ 0 by simpa using he)]
  conv=>whnf
  exact OutH.bad
 rw[if_neg (show ¬ denErr d ≠ 0 by simpa using he)]
 conv=>whnf
 refine (e49 o _ _ hv).val fun H2 s2=>?_
 replace hu:=hu.up s2
 replace hv:=hv.up s2
 conv=>whnf
 refine if_intro (fun he=>?_) (fun he=>?_)
 ·rw[if_pos (show denErr o ≠ 0 by simpa using he)]
  conv=>whnf
  exact OutH.bad
 rw[if_neg (show ¬ denErr o ≠ 0 by simpa using he)]
 conv=>whnf
 refine (e63 x _).val fun H3 s3=>?_
 replace hu:=hu.up s3
 replace hv:=hv.up s3
 conv=>whnf
 refine if_intro (fun he=>?_) (fun he=>?_)
 ·have he':checkF x.1 x.2 ≠ 0:=by simpa using he
  rw[if_pos he',if_pos he']
  conv=>whnf
  exact OutH.bad
 have x0:checkF x.1 x.2=0:=by simpa using he
 rw[if_neg (by rw[x0];simp),if_neg (by rw[x0];simp)]
 conv=>whnf
 refine (e63 y _).val fun H4 s4=>?_
 replace hu:=hu.up s4
 replace hv:=hv.up s4
 conv=>whnf
 refine if_intro (fun he=>?_) (fun he=>?_)
 ·have he':checkF y.1 y.2 ≠ 0:=by simpa using he
  rw[if_pos he',if_pos he']
  conv=>whnf
  exact OutH.bad
 have y0:checkF y.1 y.2=0:=by simpa using he
 rw[if_neg (by rw[y0];simp),if_neg (by rw[y0];simp)]
 cases rx:realF x with
 | false=>
  rw[if_pos (.inl rfl)]
  conv=>whnf
  exact OutH.bad
 | true=>
 cases ry:realF y with
 | false=>
  rw[if_pos (.inr (.inl rfl))]
  conv=>whnf
  exact OutH.bad
 | true=>
 conv=>whnf
 refine if_intro (fun hl=>?_) (fun hl=>?_)
 ·rw[if_pos (.inr (.inr (by intro e;rw[e] at hl;simp at hl)))]
  conv=>whnf
  exact OutH.bad
 have hl:d.length=o.length:=by
  have:((d.length:Int)=(o.length:Int)):=by simpa using hl
  omega
 rw[if_neg (by simp[hl])]
 conv=>whnf
 have hs1:=c38 d x H4 _ hu
 rw[← ScaleM_eq] at hs1
 refine hs1.use fun r H6 s6 hr=>?_
 obtain⟨_,ua,rfl,hua⟩:=hr
 obtain⟨ab,ac,rfl⟩:=MatH.sl hua
 replace hv:=hv.up s6
 conv=>whnf
 refine if_intro (fun he=>?_) (fun he=>?_)
 ·rw[thenM_bad (show (ScaleMF d x).2 ≠ 0 by simpa using he)]
  conv=>whnf
  exact OutH.bad
 rw[thenM_ok (show (ScaleMF d x).2=0 by simpa using he)]
 conv=>whnf
 have hs2:=c38 o y H6 _ hv
 rw[← ScaleM_eq] at hs2
 refine hs2.use fun r H7 s7 hr=>?_
 obtain⟨_,uc2,rfl,huc⟩:=hr
 obtain⟨cb,cc,rfl⟩:=MatH.sl huc
 replace hua:=hua.up s7
 conv=>whnf
 refine if_intro (fun he=>?_) (fun he=>?_)
 ·rw[thenM_bad (show (ScaleMF o y).2 ≠ 0 by simpa using he)]
  conv=>whnf
  exact OutH.bad
 rw[thenM_ok (show (ScaleMF o y).2=0 by simpa using he)]
 conv=>whnf
 rw[AddM_eq]
 refine (c35 (ScaleMF d x).1 (ScaleMF o y).1 _ _ _ hua huc).use fun r H8 s8 hr=>?_
 obtain⟨_,w,rfl,hw⟩:=hr
 obtain⟨wb,wc,rfl⟩:=MatH.sl hw
 conv=>whnf
 exact⟨_,rfl,hw⟩
theorem e84 (m : Mx) (w:Int) (hlen:m.length < 1000000) (H:PH) (u:Value) (hu:MatH H u m):Cl Tryz.prog 84 [u,.int .i64 w] H emp fun r _ _=>r=.int .i64 (wiredErr m w):=by
 obtain⟨ub,uc,rfl⟩:=MatH.sl hu
 refine Cl_of (pol:=polL) Γok Tryz.func84 (by kernel_rfl) rfl ?_
 conv=>whnf
 refine (e48 m hlen _ _ hu).val fun H1 s1=>?_
 unfold wiredErr
 conv=>whnf
 refine if_intro (fun he=>?_) (fun he=>?_)
 ·rw[if_pos (show denErr m ≠ 0 by simpa using he)]
  conv=>whnf
 rw[if_neg (show ¬ denErr m ≠ 0 by simpa using he)]
 conv=>whnf
 refine if_intro (fun h=>?_) (fun h=>?_)
 ·rw[if_pos (.inl (of_decide_eq_true h))]
  conv=>whnf
 conv=>whnf
 refine (e101 m.length _).val fun H2 s2=>?_
 conv=>whnf
 refine if_intro (fun h'=>?_) (fun h'=>?_)
 ·rw[if_pos (.inr (of_decide_eq_true h'))]
  conv=>whnf
 rw[if_neg (fun e=>e.elim (of_decide_eq_false h) (of_decide_eq_false h'))]
 conv=>whnf
theorem e78 (m : Mx) (w:Int) (H:PH) (u:Value) (hu:MatH H u m):Cl Tryz.prog 78 [u,.int .i64 w] H emp fun r _ _=>r=.int .i64 (wiredErr m w):=by
 obtain⟨ub,uc,rfl⟩:=MatH.sl hu
 refine Cl_of (pol:=polL) Γok Tryz.func78 (by kernel_rfl) rfl ?_
 conv=>whnf
 refine (e49 m _ _ hu).val fun H1 s1=>?_
 unfold wiredErr
 conv=>whnf
 refine if_intro (fun he=>?_) (fun he=>?_)
 ·rw[if_pos (show denErr m ≠ 0 by simpa using he)]
  conv=>whnf
 rw[if_neg (show ¬ denErr m ≠ 0 by simpa using he)]
 conv=>whnf
 refine if_intro (fun h=>?_) (fun h=>?_)
 ·rw[if_pos (.inl (of_decide_eq_true h))]
  conv=>whnf
 conv=>whnf
 refine (e53 m.length _).val fun H2 s2=>?_
 conv=>whnf
 refine if_intro (fun h'=>?_) (fun h'=>?_)
 ·rw[if_pos (.inr (of_decide_eq_true h'))]
  conv=>whnf
 rw[if_neg (fun e=>e.elim (of_decide_eq_false h) (of_decide_eq_false h'))]
 conv=>whnf
def partK (m : Mx) (w:Nat) (x:Int) (N:Nat):Nat→Mx
 | 0=>m.map formsR
 | n+1=>if (keepD (n / N) w x && keepD (n % N) w x)=true then partK m w x N n else setM (partK m w x N n) (n / N) (n % N) (P4.zero,0)
theorem partK_shape {m : Mx} {w:Nat} {x:Int} {N:Nat} (h1:m.length=N) (h2:∀ r∈m,r.length=N):∀ n,(partK m w x N n).length=N∧∀ (i:Nat) r,(partK m w x N n)[i]?=some r→r.length=N
 | 0=>by
  refine⟨by simp[partK,h1],fun i r hr=>?_⟩
  obtain⟨r',hr',rfl⟩:=List.mem_map.1 (List.mem_of_getElem? hr)
  simp[formsR,h2 r' hr']
 | n+1=>by
  obtain⟨a,b⟩:=partK_shape (w:=w) (x:=x) h1 h2 n
  unfold partK
  split
  ·exact⟨a,b⟩
  ·exact setM_shape a b _ _ _
theorem partK_entry {m : Mx} {w:Nat} {x:Int} {N:Nat} (h1:m.length=N) (h2:∀ r∈m,r.length=N):∀ n,n≤N*N→∀ i k,i < N→k < N →
 entry (partK m w x N n) i k=if i*N+k < n∧(keepD i w x && keepD k w x)=false then (P4.zero,0) else formR (entry m i k).1 (entry m i k).2
 | 0,_,i,k,hi,hk=>by
  rw[if_neg (by omega)]
  have hk':k < (m[i]'(by omega)).length:=by rw[h2 _ (List.getElem_mem _)];exact hk
  exact forms_entry m (by omega) hk'
 | n+1,hn,i,k,hi,hk=>by
  have ih:=partK_entry (w:=w) (x:=x) h1 h2 n (by omega) i k hi hk
  obtain⟨s1,s2⟩:=partK_shape (w:=w) (x:=x) h1 h2 n
  have hN:0 < N:=by omega
  have e1:n / N < N:=Nat.div_lt_of_lt_mul (by omega)
  have e2:n % N < N:=Nat.mod_lt _ hN
  have hdm:n=n / N*N+n % N:=by rw[Nat.mul_comm];exact (Nat.div_add_mod n N).symm
  have key:i*N+k=n ↔ i=n / N∧k=n % N:=by
   constructor
   ·intro e
    rw[← e,(divmod hk).1,(divmod hk).2]
    exact⟨rfl,rfl⟩
   ·rintro ⟨rfl,rfl⟩
    exact hdm.symm
  unfold partK
  split
  ·rename_i hk'
   rw[ih]
   by_cases e:i*N+k=n
   ·obtain⟨rfl,rfl⟩:=key.1 e
    rw[hk',if_neg (by simp),if_neg (by simp)]
   ·have:(i*N+k < n)=(i*N+k < n+1):=propext (by omega)
    simp only[this]
  ·rename_i hk'
   rw[entry_set s1 s2 _ e1 e2]
   by_cases e:i*N+k=n
   ·obtain⟨rfl,rfl⟩:=key.1 e
    rw[if_pos ⟨rfl,rfl⟩,if_pos ⟨by omega,by simpa using hk'⟩]
   ·rw[if_neg (fun h=>e (key.2 h)),ih]
    have:(i*N+k < n)=(i*N+k < n+1):=propext (by omega)
    simp only[this]
theorem partK_all {m : Mx} {w:Nat} {x:Int} {N:Nat} (hc:checkMF m=0) (h1:m.length=N) (hw:wideM m=N):partK m w x N (N*N)=keptM m w x:=by
 have rm:=right_of hc
 have h2:∀ r∈m,r.length=N:=fun r hr=>by rw[← hw];exact rm.row r hr
 obtain⟨s1,s2⟩:=partK_shape (w:=w) (x:=x) h1 h2 (N*N)
 have g:=gridM_shape (keptAt m w x) N N
 unfold keptM
 rw[h1]
 refine mat_ext s1 s2 g.1 g.2 fun i k hi hk=>?_
 rw[partK_entry h1 h2 _ (Nat.le_refl _) i k hi hk,gridM_entry _ hi hk]
 have hc':=entry_right hc (i:=i) (k:=k) (by omega) (by omega)
 unfold keptAt
 rw[LeastF_eq hc']
 cases (keepD i w x && keepD k w x) with
 | false=>rw[if_pos ⟨sq_lt hi hk,rfl⟩,if_neg (by simp)]
 | true=>rw[if_neg (by simp),if_pos rfl]
theorem keep_cond {i w : Nat} (hi:i < 64) (hw:w < 6) (x:Int):(andI (shrI (i:Int) (w:Int)) 1 == x)=keepD i w x:=by
 rw[bit_cond hi hw]
 rfl
set_option maxHeartbeats 2000000 in
theorem e85 (m : Mx) (w:Nat) (x:Int) (hc:checkMF m=0) (N:Nat) (hN:N≤16) (h1:m.length=N) (hwd:wideM m=N) (hw:w < 6) (H:PH) (u:Value) (hu:MatH H u m) :
 Cl Tryz.prog 85 [u,.int .i64 w,.int .i64 x] H emp fun r _ M'=>OwnM M' r N N (keptM m w x):=by
 have rm:=right_of hc
 have h2:∀ r∈m,r.length=N:=fun r hr=>by rw[← hwd];exact rm.row r hr
 rw[← partK_all hc h1 hwd]
 obtain⟨ub,uc,rfl⟩:=MatH.sl hu
 refine Cl_of (pol:=polL) Γok Tryz.func85 (by kernel_rfl) rfl ?_
 conv=>whnf
 intro bw
 conv=>whnf
 intro bx
 conv=>whnf
 refine (c28 m (by omega) _ _ hu).mono fun r H2 M2 s2 hr=>?_
 obtain⟨_,w0,rfl,hown⟩:∃ _:True,∃ w0,r=.tuple #[w0,.int .i64 0]∧OwnM M2 w0 N N (m.map formsR):=by
  rcases hr with⟨h,_⟩ | ⟨_,w0,h,h'⟩
  ·rw[← checkMF_checkMR] at h;exact absurd hc h
  ·rw[show (m.headD []).length=N from hwd,h1] at h'
   exact⟨trivial,w0,h,h'⟩
 obtain⟨bs,b0,rfl,hrows⟩:=hown.ownB
 conv=>whnf
 intro b7
 conv=>whnf
 rw[h1]
 refine (e67 N (by omega) _).use fun it H3 s3 hit=>?_
 obtain⟨_,hit⟩:=hit
 conv=>whnf
 refine W_range (pol:=polL) Γok (placesN 0 (List.replicate N N)) hit PH (fun n O _=>OwnB O bs b0 N N (partK m w x N n)) (fun _ _ _=>False) (fun _=>[]) (fun O=>O) (fun _ _ _ _ _ h=>h) (fun _ _ _ _ _ h=>h) ⟨M2,hrows,rfl,?_⟩ ?_ ?_ ?_
 ·conv=>whnf
 ·rintro n y hy O H' hs' hrw q o o' hq
  have hlt:n < N*N:=by
   rw[← placesN_uniform_length N N]
   exact (List.getElem?_eq_some_iff.1 hy).1
  obtain⟨g1,g2,g3⟩:=placesN_uniform hlt
  rw[g3] at hy
  cases hy
  have hst:partK m w x N (n+1)=if (keepD (n / N) w x && keepD (n % N) w x)=true then partK m w x N n else setM (partK m w x N n) (n / N) (n % N) (P4.zero,0):=rfl
  conv=>whnf
  intro b9
  conv=>whnf
  refine⟨rfl,?_⟩
  conv=>whnf
  refine⟨O,rfl,?_⟩
  conv=>whnf
  refine W_draw (pol:=polL) Γok mixes [(0,.pendO),(1,.pendO),(2,.pendO),(3,.pendO),(4,.pendO),(5,.pendO),(6,.pendO),(7,.pendO),(8,.pendO),(9,.pendO),(10,.pendO),(11,.late),(12,.lock)] 46 (by kernel_rfl) rfl ?_
  conv=>whnf
  intro b10
  conv=>whnf
  have hb:eqCells [.int .i64 (andI (shrI ((n / N:Nat):Int) (w:Int)) 1),.int .i64 (andI (shrI ((n % N:Nat):Int) (w:Int)) 1)] [.int .i64 x,.int .i64 x]=(keepD (n / N) w x && keepD (n % N) w x):=by
   show (((andI (shrI ((n / N:Nat):Int) (w:Int)) 1) == x) && (((andI (shrI ((n % N:Nat):Int) (w:Int)) 1) == x) && true))=_
   rw[keep_cond (by omega) hw,keep_cond (by omega) hw,Bool.and_true]
  refine if_intro (fun he=>?_) (fun he=>?_)
  ·have he:(!(keepD (n / N) w x && keepD (n % N) w x))=true:=by rw[← hb];exact he
   rw[if_neg (by intro h;rw[h] at he;cases he)] at hst
   have hq0:b0 ≠ q:=fun e=>by rw[← e] at hq;rw[hrw.list] at hq;cases hq
   obtain⟨br,row,hb1,hr1,hrl,hne0,hOb,hRd⟩:=hrw.rowI (O:=ins O q o') (ins_ne _ _ hq0) g1 H'
   have hbl:br ≠ q:=fun e=>by rw[e,hq] at hOb;cases hOb
   conv=>whnf
   refine W_draw (pol:=polL) Γok mixes [(0,.pendO),(1,.pendO),(2,.pendO),(3,.pendO),(4,.pendO),(5,.pendO),(6,.pendO),(7,.pendO),(8,.pendO),(9,.lock)] 46 (by kernel_rfl) rfl ?_
   conv=>whnf
   refine dec_intro (by omega) ?_
   conv=>whnf
   refine⟨_,hRd,?_⟩
   conv=>whnf
   refine dec_intro (by omega) ?_
   conv=>whnf
   refine⟨_,_,(ins_ne _ _ hbl).trans hOb,?_,?_⟩
   ·show _≤(cellsN _).length
    rw[cellsN_length,hrl]
    simp only[Int.toNat_natCast,List.length_cons,List.length_nil]
    omega
   conv=>whnf
   refine⟨ins O br (.cells ⟨(cellsN row).take (0+(n % N)*5)++cellsOf (P4.zero,0)++(cellsN row).drop (0+(n % N)*5+5)⟩ 25 (0,0)),.inl ⟨rfl,?_⟩,?_,?_,?_⟩
   ·rw[hst]
    exact hrw.set hb1 hr1 g2 _
   ·rw[ins_ne _ _ hbl.symm];exact hq
   ·rw[ins_comm O _ _ hbl]
    rfl
   conv=>whnf
   repeat (refine⟨rfl,?_⟩;conv=>whnf)
   exact trivial
  ·have he:(!(keepD (n / N) w x && keepD (n % N) w x))=false:=by rw[← hb];exact he
   rw[if_pos (by simpa using he)] at hst
   conv=>whnf
   refine⟨O,.inl ⟨rfl,?_⟩,hq,rfl,?_⟩
   ·rw[hst]
    exact hrw
   conv=>whnf
   repeat (refine⟨rfl,?_⟩;conv=>whnf)
   exact trivial
 ·intro O H' hs' hrw
  rw[placesN_uniform_length] at hrw
  conv=>whnf
  exact hrw.ownM
 ·intro e O H' hs' hf
  exact hf.elim
structure GM (O : PH) (v:Value) (us:List Value) (rows:Mx) (ob:Option Nat) (obs:List (Option Nat)):Prop where
 head:OwnA O 1 22 v (us.map fun u=>[u]) ob
 l1:us.length=rows.length
 l2:obs.length=rows.length
 row:∀ (i:Nat) u r a,us[i]?=some u→rows[i]?=some r→obs[i]?=some a→VecA O u r a
 ap:∀ (i j:Nat) a b,obs[i]?=some a→obs[j]?=some b→i ≠ j→Ap a b
 hp:∀ (i:Nat) a,obs[i]?=some a→Ap ob a
theorem GM.nil (O : PH):GM O (.slice none 0 0) [] [] none []:=
 ⟨OwnA.nil _ _ _,rfl,rfl,fun i u r a h=>by simp at h,fun i j a b h=>by simp at h,fun i a h=>by simp at h⟩
theorem OwnS.toA {O : PH} {sz:Nat} {t:TypeId} {v:Value} {xs:List (List Value)} (h:OwnS O sz t v xs):∃ ob,OwnA O sz t v xs ob:=by
 obtain⟨h1,h2⟩:=h
 rcases h2 with⟨h,h'⟩ | ⟨b,cap,sp,h,q⟩
 ·exact⟨none,h1,.inl ⟨rfl,h,h'⟩⟩
 ·exact⟨some b,h1,.inr ⟨b,cap,sp,rfl,h,q⟩⟩
theorem get_snoc {α : Type} {l:List α} {x y:α} {i:Nat} (h:(l++[x])[i]?=some y):l[i]?=some y∨(i=l.length∧x=y):=by
 rcases Nat.lt_trichotomy i l.length with hi | hi | hi
 ·rw[List.getElem?_append_left hi] at h
  exact .inl h
 ·subst hi
  simp at h
  exact .inr ⟨rfl,h⟩
 ·rw[List.getElem?_eq_none (by simp;omega)] at h
  cases h
theorem some_lt {α : Type} {l:List α} {i:Nat} {x:α} (h:l[i]?=some x):i < l.length:=(List.getElem?_eq_some_iff.1 h).1
theorem GM.snoc {O O1 O2 : PH} {v v2 u:Value} {us:List Value} {rows:Mx} {ob:Option Nat} {obs:List (Option Nat)} {r:Vec} {a:Option Nat} {b:Nat} (h:GM O v us rows ob obs) (hs:Sub O O1) (hr:VecA O1 u r a) (hf:∀ n,a=some n→O n=none)
 (h2:OwnA O2 1 22 v2 ((us.map fun u=>[u])++[[u]]) (some b)) (hb:ob=some b∨O1 b=none) (hk:Keeps O1 O2 ob):GM O2 v2 (us++[u]) (rows++[r]) (some b) (obs++[a]):=by
 have hha:Ap ob a:=fun n hn ha=>by
  subst hn
  exact h.head.there (hf n ha)
 have old:∀ (i:Nat) c,obs[i]?=some c→∃ w q,VecA O w q c:=fun i c hc=>by
  have hi:=some_lt hc
  exact⟨_,_,h.row i _ _ c (List.getElem?_eq_getElem (by rw[h.l1,← h.l2];exact hi)) (List.getElem?_eq_getElem (by rw[← h.l2];exact hi)) hc⟩
 have oa:∀ (i:Nat) c,obs[i]?=some c→Ap c a:=fun i c hc n hn ha=>by
  obtain⟨w,q,hw⟩:=old i c hc
  subst hn
  exact OwnA.there hw (hf n ha)
 refine⟨?_,by simp[h.l1],by simp[h.l2],fun i w q c h3 h4 h5=>?_,fun i j c d h3 h4 hij=>?_,fun i c h3=>?_⟩
 ·rw[List.map_append]
  exact h2
 ·rcases get_snoc h5 with h5 | ⟨h6,rfl⟩
  ·have hi:=some_lt h5
   rw[List.getElem?_append_left (by rw[h.l1,← h.l2];exact hi)] at h3
   rw[List.getElem?_append_left (by rw[← h.l2];exact hi)] at h4
   exact OwnA.keep (OwnA.up (h.row i w q c h3 h4 h5) hs) hk (h.hp i c h5)
  ·subst h6
   rw[h.l2,← h.l1] at h3
   rw[h.l2] at h4
   simp at h3 h4
   subst h3 h4
   exact OwnA.keep hr hk hha
 ·rcases get_snoc h3 with h3 | ⟨h3,rfl⟩<;>rcases get_snoc h4 with h4 | ⟨h4,rfl⟩
  ·exact h.ap i j c d h3 h4 hij
  ·exact oa i c h3
  ·exact (oa j d h4).symm
  ·omega
 ·rcases get_snoc h3 with h3 | ⟨h3,rfl⟩
  ·obtain⟨w,q,hw⟩:=old i c h3
   exact Ap.fresh (OwnA.up hw hs) (h.hp i c h3) hb
  ·exact Ap.fresh hr hha hb
theorem GM.sl {O : PH} {v:Value} {us:List Value} {rows:Mx} {ob:Option Nat} {obs:List (Option Nat)} (h:GM O v us rows ob obs):∃ base cap,v=.slice base rows.length cap:=by
 obtain⟨b,c,e⟩:=OwnA.sl h.head
 rw[List.length_map,h.l1] at e
 exact⟨b,c,e⟩
theorem flat_ones : ∀ us:List Value,(us.map fun u=>[u]).flatten=us
 | []=>rfl
 | u::us=>by
  simp only[List.map_cons,List.flatten_cons,flat_ones us]
  rfl
theorem GM.at {O : PH} {v:Value} {us:List Value} {rows:Mx} {ob:Option Nat} {obs:List (Option Nat)} (h:GM O v us rows ob obs) {i k:Nat} (hi:i < rows.length) (hk:k < rows[i].length) :
 ∃ hb hc b c sp,v=.slice (some ⟨hb,0,none⟩) rows.length hc∧obs[i]?=some (some b)∧us[i]?=some (.slice (some ⟨b,0,none⟩) rows[i].length c)∧O b=some (.cells ⟨cellsN rows[i]++sp⟩ 25 (0,0)) ∧
  ∀ H,Rd H O ⟨hb,0+i*1,none⟩ 1 [.slice (some ⟨b,0,none⟩) rows[i].length c]:=by
 have hiu:i < us.length:=by rw[h.l1];exact hi
 have hio:i < obs.length:=by rw[h.l2];exact hi
 have hv:=h.row i _ _ _ (List.getElem?_eq_getElem hiu) (List.getElem?_eq_getElem hi) (List.getElem?_eq_getElem hio)
 rcases hv.2 with⟨_,_,h3⟩ | ⟨b,c,sp,h1,h2,h3,h4,h5⟩
 ·have:rows[i].length=0:=by
   have:=congrArg List.length h3
   simpa using this
  omega
 rw[List.length_map] at h2 h4 h5
 rcases h.head.2 with⟨_,_,q3⟩ | ⟨hb,hc,hsp,q1,q2,q3,q4,q5⟩
 ·have:us.length=0:=by
   have:=congrArg List.length q3
   simpa using this
  omega
 rw[List.length_map,h.l1] at q2
 rw[flat_ones] at q3
 refine⟨hb,hc,b,c,sp,q2,by rw[List.getElem?_eq_getElem hio,h1],by rw[List.getElem?_eq_getElem hiu,h2],h3,fun H=>⟨rfl,rfl,_,_,_,.inr q3,?_⟩⟩
 rw[Nat.zero_add,Nat.mul_one]
 show List.take 1 (List.drop i (us++hsp))=_
 rw[List.drop_append_of_le_length (by omega),List.drop_eq_getElem_cons hiu,h2]
 rfl
theorem GM.set {O : PH} {v:Value} {us:List Value} {rows:Mx} {ob:Option Nat} {obs:List (Option Nat)} (h:GM O v us rows ob obs) {i k b:Nat} (hi:i < rows.length) (hk:k < rows[i].length) (hob:obs[i]?=some (some b)) {sp:List Value} (hO:O b=some (.cells ⟨cellsN rows[i]++sp⟩ 25 (0,0))) (x:P4 × Int) :
 GM (ins O b (.cells ⟨(cellsN rows[i]++sp).take (0+k*5)++cellsOf x++(cellsN rows[i]++sp).drop (0+k*5+5)⟩ 25 (0,0))) v us (setM rows i k x) ob obs:=by
 have hl:=cellsN_length rows[i]
 have e1:(cellsN rows[i]++sp).take (0+k*5)++cellsOf x++(cellsN rows[i]++sp).drop (0+k*5+5)=cellsN (rows[i].set k x)++sp:=by
  rw[← cellsN_set rows[i] k x hk,List.take_append_of_le_length (by omega),List.drop_append_of_le_length (by omega)]
  simp
 rw[e1]
 have hk':Keeps O (ins O b (.cells ⟨cellsN (rows[i].set k x)++sp⟩ 25 (0,0))) (some b):=fun n o hn hne=>(ins_ne _ _ fun e=>hne (by rw[e])).trans hn
 refine⟨h.head.keep hk' fun n hn ho=>?_,by simp[setM,h.l1],by simp[setM,h.l2],fun j u r a h1 h2 h3=>?_,h.ap,h.hp⟩
 ·cases hn
  exact h.hp i _ hob b ho rfl
 ·unfold setM at h2
  by_cases e:i=j
  ·subst e
   rw[List.getElem?_set_self hi] at h2
   cases h2
   rw[hob] at h3
   cases h3
   have hv:=h.row i u _ _ h1 (List.getElem?_eq_getElem hi) hob
   rw[List.getD_eq_getElem?_getD,List.getElem?_eq_getElem hi,Option.getD_some]
   rcases hv.2 with⟨hn,_⟩ | ⟨b',c,sp',q1,q2,q3,q4,q5⟩
   ·cases hn
   cases q1
   rw[hO] at q3
   have hsp:sp'=sp:=by
    injection q3 with q3
    injection q3 with q3
    injection q3 with q3
    exact (List.append_cancel_left q3).symm
   subst hsp
   refine⟨fun y hy=>?_,.inr ⟨b,c,sp',rfl,by simpa using q2,ins_same _ _ _,by simpa using q4,by simpa using q5⟩⟩
   obtain⟨z,_,rfl⟩:=List.mem_map.1 hy
   rfl
  ·rw[List.getElem?_set_ne e] at h2
   refine OwnA.keep (h.row j u r a h1 h2 h3) hk' fun n hn ho=>?_
   cases hn
   exact h.ap i j _ a hob h3 e b rfl ho
theorem GM.mat {H O : PH} {v:Value} {us:List Value} {rows:Mx} {ob:Option Nat} {obs:List (Option Nat)} (h:GM O v us rows ob obs) (hd:Dis H O):MatH (un H O) v rows:=by
 have hrow:∀ (i:Nat) r u,rows[i]?=some r→us[i]?=some u→NumH (un H O) u r:=fun i r u hr hu=>by
  have hi:=some_lt hr
  exact NumO.share (VecA.num (h.row i u r _ hu hr (List.getElem?_eq_getElem (by rw[h.l2];exact hi)))) hd
 rcases h.head.2 with⟨_,rfl,h3⟩ | ⟨b,c,sp,h1,rfl,h3,h4,h5⟩
 ·have:us=[]:=by simpa using h3
  subst this
  have:rows=[]:=by
   have:=h.l1
   exact List.eq_nil_of_length_eq_zero (by simpa using this.symm)
  subst this
  exact nilM _
 ·rw[flat_ones] at h3
  refine⟨us,h.l1,⟨some ⟨b,0,none⟩,c,by rw[List.length_map,h.l1],.inr ⟨b,0,_,_,_,rfl,un_right hd h3,?_⟩⟩,hrow⟩
  rw[List.drop_zero]
  exact List.take_left
theorem e98g (m : Mx) (H:PH) (v:Value) (hv:MatH H v m) (hlen:m.length≤100000) (hrow:∀ r∈m,r.length≤100000) (hk:∀ r∈m,∀ x∈r,-9223372036854775808≤x.2∧x.2 < 9223372036854775808) :
 Cl Tryz.prog 98 [v] H emp fun r H' M'=>∃ us ob obs,GM M' r us (m.map formsR) ob obs:=by
 obtain⟨base,cap,rfl⟩:=MatH.sl hv
 refine Cl_of (pol:=fun | 17=>.imm | _=>.loc) Γok Tryz.func98 (by kernel_rfl) rfl ?_
 conv=>whnf
 refine W_loop (pol:=fun | 17=>.imm | _=>.loc) Γok (Nat × PH × Value × PH) (fun i=>i.1≤m.length∧Sub H i.2.1∧∃ us ob obs,GM i.2.2.2 i.2.2.1 us ((m.take i.1).map formsR) ob obs) (fun i=>m.length - i.1) (fun i=>[(4,.v (.int .i64 i.1)),(3,.v i.2.2.1)]) (fun _=>[]) (fun i=>i.2.1) (fun i=>i.2.2.2) ⟨(0,H,.slice none 0 0,emp),⟨by simp,Sub.refl _,[],none,[],by simpa using GM.nil _⟩,rfl,rfl,?_⟩ ?_
 ·conv=>whnf
  repeat (refine⟨rfl,?_⟩;conv=>whnf)
  exact trivial
 ·rintro ⟨i,H',out,O'⟩ ⟨h1,h2,us,ob,obs,h3⟩
  dsimp only at h1 h2 h3
  conv=>whnf
  refine if_intro (fun h=>?_) (fun h=>?_)
  ·have hi:i < m.length:=by simpa using h
   obtain⟨b,off,base',cap',rfl,hrd,hn⟩:=(hv.up h2).rd (O:=O') hi
   conv=>whnf
   refine dec_intro (by simpa using hi) ?_
   conv=>whnf
   refine⟨_,hrd,?_⟩
   conv=>whnf
   refine ((c154 m[i] _ _ hn (hrow _ (List.getElem_mem hi)) (hk _ (List.getElem_mem hi))).pure (O:=O')).mono fun r H2 O1 hs hr=>?_
   obtain⟨Mr,hp,hr⟩:=hr
   obtain⟨oa,hra⟩:=OwnS.toA hr
   obtain⟨rb,rc,rfl⟩:=OwnA.sl hra
   rw[List.length_map] at hra ⊢
   have hra1:VecA O1 (.slice rb (formsR m[i]).length rc) (formsR m[i]) oa:=OwnA.up hra hp.left
   have hfr:∀ n,oa=some n→O' n=none:=fun n hn=>by
    subst hn
    rcases hp.dis n with e | e
    ·exact absurd e (OwnA.there hra)
    ·exact e
   conv=>whnf
   intro b2 hb2 hO2
   conv=>whnf
   refine append_ap (xs:=us.map fun u=>[u]) (y:=[.slice rb (formsR m[i]).length rc]) (OwnA.up h3.head hp.right) rfl rfl (fun v hv=>by simp at hv;subst hv;rfl) ⟨_,_,_,rfl,rfl,Rd.whole (ins_same _ _ _)⟩ ?_ fun v O2 bx hO2' hf2 hk2=>?_
   ·have:=h3.l1
    simp at this ⊢
    omega
   conv=>whnf
   have hs2:=sub_ins H2 (.cells ⟨[.slice rb (formsR m[i]).length rc]⟩ 22 (0,0)) hb2
   refine⟨(i+1,ins H2 b2 (.cells ⟨[.slice rb (formsR m[i]).length rc]⟩ 22 (0,0)),v,O2),⟨hi,(h2.trans hs).trans hs2,us++[.slice rb (formsR m[i]).length rc],some bx,obs++[oa],?_⟩,by dsimp only;omega,?_⟩
   ·dsimp only
    rw[List.take_succ_eq_append_getElem hi,List.map_append]
    exact h3.snoc hp.right hra1 hfr hO2' hf2 hk2
   ·conv=>whnf
    refine⟨rfl,rfl,?_⟩
    conv=>whnf
    repeat (refine⟨rfl,?_⟩;conv=>whnf)
    refine⟨by show En.v (.int .i64 (IntKind.i64.wrap (i+1)))=_;rw[wrap_id (by omega) (by omega)]<;>rfl,?_⟩
    conv=>whnf
    repeat (refine⟨rfl,?_⟩;conv=>whnf)
    exact trivial
  ·have hi:m.length≤i:=by simpa using h
   conv=>whnf
   rw[List.take_of_length_le hi] at h3
   exact⟨us,ob,obs,h3⟩
set_option maxHeartbeats 2000000 in
theorem e79g (m : Mx) (w:Nat) (x:Int) (hc:checkMF m=0) (N:Nat) (hN:N≤16) (h1:m.length=N) (hwd:wideM m=N) (hw:w < 6) (H:PH) (u:Value) (hu:MatH H u m) :
 Cl Tryz.prog 79 [u,.int .i64 w,.int .i64 x] H emp fun r H' M'=>∃ us ob obs,GM M' r us (keptM m w x) ob obs:=by
 have rm:=right_of hc
 have h2:∀ r∈m,r.length=N:=fun r hr=>by rw[← hwd];exact rm.row r hr
 rw[← partK_all hc h1 hwd]
 have hc2:=hc
 rw[checkMF_checkMR] at hc2
 obtain⟨_,_,_,z4⟩:=checkMR_zero hc2
 obtain⟨ub,uc,rfl⟩:=MatH.sl hu
 refine Cl_of (pol:=polL) Γok Tryz.func79 (by kernel_rfl) rfl ?_
 conv=>whnf
 refine (e98g m _ _ hu (by omega) (fun r hr=>by rw[h2 r hr];omega) (fun r hr y hy=>by
  have:=z4 r hr y hy
  rw[← checkF_checkR] at this
  have:=right_in this
  omega)).mono fun v H2 M2 s2 hr=>?_
 obtain⟨us,ob,obs,hg⟩:=hr
 obtain⟨vb,vc,rfl⟩:=GM.sl hg
 rw[List.length_map,h1] at hg ⊢
 conv=>whnf
 refine W_loop (pol:=polL) Γok (Nat × PH × PH) (fun i=>i.1≤N∧Sub H2 i.2.1∧GM i.2.2 (.slice vb N vc) us (partK m w x N (i.1*N)) ob obs) (fun i=>N - i.1) (fun i=>[(8,.v (.int .i64 i.1))]) (fun _=>[]) (fun i=>i.2.1) (fun i=>i.2.2) ⟨(0,H2,M2),⟨by simp,Sub.refl _,by rw[Nat.zero_mul];exact hg⟩,rfl,rfl,?_⟩ ?_
 ·conv=>whnf
  repeat (refine⟨rfl,?_⟩;conv=>whnf)
  exact trivial
 rintro ⟨a,H',O⟩ ⟨g1,g2,g3⟩
 dsimp only at g1 g2 g3
 conv=>whnf
 refine if_intro (fun hca=>?_) (fun hca=>?_)
 ·have ha:a < N:=by
   have:=of_decide_eq_true hca
   omega
  conv=>whnf
  refine W_loop (pol:=polL) Γok (Nat × PH × PH) (fun k=>k.1≤N∧Sub H2 k.2.1∧GM k.2.2 (.slice vb N vc) us (partK m w x N (a*N+k.1)) ob obs) (fun k=>N - k.1) (fun k=>[(9,.v (.int .i64 k.1))]) (fun _=>[]) (fun k=>k.2.1) (fun k=>k.2.2) ⟨(0,H',O),⟨by simp,g2,g3⟩,rfl,rfl,?_⟩ ?_
  ·conv=>whnf
   repeat (refine⟨rfl,?_⟩;conv=>whnf)
   exact trivial
  rintro ⟨b,H3,O3⟩ ⟨k1,k2,k3⟩
  dsimp only at k1 k2 k3
  conv=>whnf
  refine if_intro (fun hcb=>?_) (fun hcb=>?_)
  ·have hb':b < N:=by
    have:=of_decide_eq_true hcb
    omega
   have hst:partK m w x N (a*N+b+1)=if (keepD ((a*N+b) / N) w x && keepD ((a*N+b) % N) w x)=true then partK m w x N (a*N+b) else setM (partK m w x N (a*N+b)) ((a*N+b) / N) ((a*N+b) % N) (P4.zero,0):=rfl
   rw[(divmod hb').1,(divmod hb').2] at hst
   obtain⟨ps1,ps2⟩:=partK_shape (w:=w) (x:=x) h1 h2 (a*N+b)
   have ca:=keep_cond (i:=a) (by omega) hw x
   have cb:=keep_cond (i:=b) (by omega) hw x
   conv=>whnf
   refine if_intro (fun hx=>?_) (fun hx=>?_)
   ·have HKA:keepD a w x=false:=by
     rw[← ca]
     have:(!(andI (shrI (a:Int) (w:Int)) 1 == x))=true:=hx
     simpa using this
    have HK:(keepD a w x && keepD b w x)=false:=by rw[HKA]<;>rfl
    conv=>whnf
    rw[if_neg (by rw[HK];simp)] at hst
    obtain⟨hb,hc',br,rc,sp,ev,hob,hus,hOb,hRd⟩:=k3.at (i:=a) (k:=b) (by rw[ps1];exact ha) (by rw[ps2 _ _ (List.getElem?_eq_getElem (by rw[ps1];exact ha))];exact hb')
    have hrl:((partK m w x N (a*N+b))[a]'(by rw[ps1];exact ha)).length=N:=ps2 _ _ (List.getElem?_eq_getElem (by rw[ps1];exact ha))
    rw[ps1] at ev
    injection ev with ev1 ev2 ev3
    subst ev1
    conv=>whnf
    refine dec_intro (by omega) ?_
    conv=>whnf
    refine⟨_,hRd _,?_⟩
    conv=>whnf
    refine dec_intro (by omega) ?_
    conv=>whnf
    refine⟨_,_,hOb,?_,?_⟩
    ·rw[List.length_append,cellsN_length,hrl]
     simp only[Int.toNat_natCast,List.length_cons,List.length_nil]
     omega
    conv=>whnf
    have hset:=k3.set (i:=a) (k:=b) (by rw[ps1];exact ha) (by rw[hrl];exact hb') hob hOb (P4.zero,0)
    rw[← hst] at hset
    refine⟨(b+1,H3,ins O3 br (.cells ⟨(cellsN (partK m w x N (a*N+b))[a]++sp).take (0+b*5)++cellsOf (P4.zero,0)++(cellsN (partK m w x N (a*N+b))[a]++sp).drop (0+b*5+5)⟩ 25 (0,0))),⟨hb',k2,hset⟩,by dsimp only;omega,?_⟩
    refine⟨rfl,rfl,?_⟩
    conv=>whnf
    repeat (refine⟨rfl,?_⟩;conv=>whnf)
    refine⟨by show En.v (.int .i64 (IntKind.i64.wrap (b+1)))=_;rw[wrap_id (by omega) (by omega)]<;>rfl,?_⟩
    conv=>whnf
    repeat (refine⟨rfl,?_⟩;conv=>whnf)
    exact trivial
   have HKA:keepD a w x=true:=by
    rw[← ca]
    have:(!(andI (shrI (a:Int) (w:Int)) 1 == x))=false:=hx
    simpa using this
   conv=>whnf
   refine if_intro (fun hx'=>?_) (fun hx'=>?_)
   ·have HKB:keepD b w x=false:=by
     rw[← cb]
     have:(!(andI (shrI (b:Int) (w:Int)) 1 == x))=true:=hx'
     simpa using this
    have HK:(keepD a w x && keepD b w x)=false:=by rw[HKA,HKB]<;>rfl
    conv=>whnf
    rw[if_neg (by rw[HK];simp)] at hst
    obtain⟨hb,hc',br,rc,sp,ev,hob,hus,hOb,hRd⟩:=k3.at (i:=a) (k:=b) (by rw[ps1];exact ha) (by rw[ps2 _ _ (List.getElem?_eq_getElem (by rw[ps1];exact ha))];exact hb')
    have hrl:((partK m w x N (a*N+b))[a]'(by rw[ps1];exact ha)).length=N:=ps2 _ _ (List.getElem?_eq_getElem (by rw[ps1];exact ha))
    rw[ps1] at ev
    injection ev with ev1 ev2 ev3
    subst ev1
    conv=>whnf
    refine dec_intro (by omega) ?_
    conv=>whnf
    refine⟨_,hRd _,?_⟩
    conv=>whnf
    refine dec_intro (by omega) ?_
    conv=>whnf
    refine⟨_,_,hOb,?_,?_⟩
    ·rw[List.length_append,cellsN_length,hrl]
     simp only[Int.toNat_natCast,List.length_cons,List.length_nil]
     omega
    conv=>whnf
    have hset:=k3.set (i:=a) (k:=b) (by rw[ps1];exact ha) (by rw[hrl];exact hb') hob hOb (P4.zero,0)
    rw[← hst] at hset
    refine⟨(b+1,H3,ins O3 br (.cells ⟨(cellsN (partK m w x N (a*N+b))[a]++sp).take (0+b*5)++cellsOf (P4.zero,0)++(cellsN (partK m w x N (a*N+b))[a]++sp).drop (0+b*5+5)⟩ 25 (0,0))),⟨hb',k2,hset⟩,by dsimp only;omega,?_⟩
    refine⟨rfl,rfl,?_⟩
    conv=>whnf
    repeat (refine⟨rfl,?_⟩;conv=>whnf)
    refine⟨by show En.v (.int .i64 (IntKind.i64.wrap (b+1)))=_;rw[wrap_id (by omega) (by omega)]<;>rfl,?_⟩
    conv=>whnf
    repeat (refine⟨rfl,?_⟩;conv=>whnf)
    exact trivial
   have HKB:keepD b w x=true:=by
    rw[← cb]
    have:(!(andI (shrI (b:Int) (w:Int)) 1 == x))=false:=hx'
    simpa using this
   rw[if_pos (by rw[HKA,HKB]<;>rfl)] at hst
   conv=>whnf
   refine⟨(b+1,H3,O3),⟨hb',k2,by rw[← hst] at k3;exact k3⟩,by dsimp only;omega,?_⟩
   refine⟨rfl,rfl,?_⟩
   conv=>whnf
   repeat (refine⟨rfl,?_⟩;conv=>whnf)
   refine⟨by show En.v (.int .i64 (IntKind.i64.wrap (b+1)))=_;rw[wrap_id (by omega) (by omega)]<;>rfl,?_⟩
   conv=>whnf
   repeat (refine⟨rfl,?_⟩;conv=>whnf)
   exact trivial
  have hb':b=N:=by
   have:=of_decide_eq_false hcb
   omega
  subst hb'
  conv=>whnf
  refine⟨(a+1,H3,O3),⟨ha,k2,by rw[Nat.succ_mul];exact k3⟩,by dsimp only;omega,?_⟩
  refine⟨rfl,rfl,?_⟩
  conv=>whnf
  repeat (refine⟨rfl,?_⟩;conv=>whnf)
  refine⟨by show En.v (.int .i64 (IntKind.i64.wrap (a+1)))=_;rw[wrap_id (by omega) (by omega)]<;>rfl,?_⟩
  conv=>whnf
  repeat (refine⟨rfl,?_⟩;conv=>whnf)
  exact trivial
 have ha:a=N:=by
  have:=of_decide_eq_false hca
  omega
 subst ha
 conv=>whnf
 exact⟨us,ob,obs,g3⟩
theorem e79 (m : Mx) (w:Nat) (x:Int) (hc:checkMF m=0) (N:Nat) (hN:N≤16) (h1:m.length=N) (hwd:wideM m=N) (hw:w < 6) (H:PH) (u:Value) (hu:MatH H u m) :
 Cl Tryz.prog 79 [u,.int .i64 w,.int .i64 x] H emp fun r H' _=>MatH H' r (keptM m w x):=
 (e79g m w x hc N hN h1 hwd hw H u hu).repart fun r H' M' _ hd hq=>by
  obtain⟨us,ob,obs,hg⟩:=hq
  exact⟨_,_,.all hd,hg.mat hd⟩
def OutN (H0 H : PH) (r:Value) (x:Mx × Int):Prop:=∃ u,r=.tuple #[u,.int .i64 x.2]∧((x.1=[]∧u=.slice none 0 0)∨MatN H0 H u x.1)
theorem OutN.outH {H0 H : PH} {r:Value} {x:Mx × Int} (h:OutN H0 H r x):OutH H r x:=by
 obtain⟨u,h1,h2⟩:=h
 refine⟨u,h1,?_⟩
 rcases h2 with⟨h2,rfl⟩ | h2
 ·rw[h2];exact nilM _
 ·exact h2.mat
theorem OutN.up {H0 H H' : PH} {r:Value} {x:Mx × Int} (h:OutN H0 H r x) (hs:Sub H H'):OutN H0 H' r x:=by
 obtain⟨u,h1,h2⟩:=h
 exact⟨u,h1,h2.imp id fun h=>h.up hs⟩
theorem OutN.base {H0 H1 H : PH} {r:Value} {x:Mx × Int} (h:OutN H1 H r x) (hs:Sub H0 H1):OutN H0 H r x:=by
 obtain⟨u,h1,h2⟩:=h
 exact⟨u,h1,h2.imp id fun h=>h.base hs⟩
theorem OutN.bad {H0 H : PH} {e:Int}:OutN H0 H (.tuple #[.slice none 0 0,.int .i64 e]) ([],e):=⟨_,rfl,.inl ⟨rfl,rfl⟩⟩
theorem new_of {H H' M' : PH} (hs:Sub H H') (hd:Dis H' M') {u:Value} {h w:Nat} {m:Mx} (h1:h < 1000000) (h2:w < 1000000) (ho:OwnM M' u h w m):MatN H (un H' M') u m:=by
 refine⟨h,w,h1,h2,ho.up fun n o hn=>?_⟩
 have hH':H' n=none:=(hd n).resolve_right (by rw[hn];simp)
 have h0:H n=none:=by
  cases e:H n with
  | none=>rfl
  | some o'=>rw[hs n o' e] at hH';cases hH'
 exact newH_some h0 (un_right hd hn)
theorem Cl.newO {f : FuncId} {args:List Value} {H:PH} {x:Mx × Int} (h:Cl Tryz.prog f args H emp fun r _ M'=>OutO M' r x):Cl Tryz.prog f args H emp fun r H' _=>OutN H H' r x:=
 Cl.repart h fun r H' M' hs hd hq=>by
  obtain⟨u,h1,h2⟩:=hq
  refine⟨_,_,.all hd,u,h1,?_⟩
  rcases h2 with⟨h2,h3⟩ | ⟨a,b,h3,h4,h5⟩
  ·exact .inl ⟨h3,h2⟩
  ·exact .inr (new_of hs hd h3 h4 h5)
theorem Cl.newM {f : FuncId} {args:List Value} {H:PH} {m:Mx} {h w:Nat} (h1:h < 1000000) (h2:w < 1000000) (hc:Cl Tryz.prog f args H emp fun r _ M'=>OwnM M' r h w m):Cl Tryz.prog f args H emp fun r H' _=>MatN H H' r m:=
 Cl.repart hc fun r H' M' hs hd hq=>⟨_,_,.all hd,new_of hs hd h1 h2 hq⟩
theorem Cl.mineO {f : FuncId} {args:List Value} {H:PH} {x:Mx × Int} (h:Cl Tryz.prog f args H emp fun r H' _=>OutN H H' r x):Cl Tryz.prog f args H emp fun r _ M'=>OutO M' r x:=
 (Cl.own h).mono fun r H2 M2 _ hq=>by
  obtain⟨rfl,H',M',⟨u,h1,h2⟩,_,_,_,h7⟩:=hq
  refine⟨u,h1,?_⟩
  rcases h2 with⟨h2,rfl⟩ | ⟨a,b,h3,h4,h5⟩
  ·exact .inl ⟨rfl,h2⟩
  ·refine .inr ⟨a,b,h3,h4,h5.up fun n o hn=>?_⟩
   unfold newH at hn
   cases e:H2 n with
   | some _=>rw[e] at hn;cases hn
   | none=>rw[e] at hn;exact h7 n o e hn
theorem c28o (m : Mx) (hlen:m.length < 1000000) (H:PH) (v:Value) (hv:MatH H v m):Cl Tryz.prog 102 [v] H emp fun r _ M'=>OutO M' r (LeastMF m):=
 (c28 m hlen H v hv).mono fun r _ M' _ hq=>by
  unfold LeastMF
  rcases hq with⟨h,rfl⟩ | ⟨h,u,rfl,hu⟩
  ·rw[if_pos h];exact .bad
  ·rw[if_neg (by simpa using h)]
   refine⟨u,rfl,.inr ⟨_,_,hlen,?_,hu⟩⟩
   have rm:=right_of (show checkMF m=0 by rw[checkMF_checkMR];exact h)
   have:=rm.wle
   show wideM m < 1000000
   omega
def addStep (s : Mx × Int) (x:Mx):Mx × Int:=if s.2=0 then AddMF s.1 x else s
def addedM (d : Mx) (l:List Mx):Mx × Int:=l.foldl addStep (LeastMF d)
theorem res_bad {e : Int} {F:Nat→Nat→(P4 × Int) × Int} {h w:Nat} (hr:(resM e F h w).2 ≠ 0):(resM e F h w).1=[]:=by
 unfold resM at hr ⊢
 split
 ·rfl
 ·rename_i h1
  rw[if_neg h1] at hr
  split
  ·rfl
  ·rename_i h2;rw[if_neg h2] at hr;exact absurd rfl hr
theorem add_facts {d : Mx} (hd:d.length < 1000000):∀ l:List Mx,(addedM d l).1.length < 1000000∧((addedM d l).2 ≠ 0→(addedM d l).1=[]):=by
 have key:∀ (l:List Mx) (s:Mx × Int),s.1.length < 1000000→(s.2 ≠ 0→s.1=[])→(l.foldl addStep s).1.length < 1000000∧((l.foldl addStep s).2 ≠ 0→(l.foldl addStep s).1=[]):=by
  intro l
  induction l with
  | nil=>exact fun s h1 h2=>⟨h1,h2⟩
  | cons x l ih=>
   intro s h1 h2
   refine ih _ ?_ ?_
   ·unfold addStep
    split
    ·exact res_len (by omega) h1
    ·exact h1
   ·unfold addStep
    split
    ·exact res_bad
    ·exact h2
 intro l
 refine key l _ ?_ ?_
 ·unfold LeastMF
  split
  ·exact (by decide:0 < 1000000)
  ·simpa using hd
 ·unfold LeastMF
  split
  ·exact fun _=>rfl
  ·exact fun h=>absurd rfl h
theorem e86n (d : Mx) (l:List Mx) (hd:d.length < 1000000) (hl:l.length < 1000000) (hx:∀ m∈l,m.length < 1000000) (H:PH) (u v:Value) (hu:MatH H u d) (hv:MatsH H v l):Cl Tryz.prog 86 [u,v] H emp fun r H' _=>OutN H H' r (addedM d l):=by
 obtain⟨base,cap,rfl⟩:∃ base cap,v=.slice base l.length cap:=by
  obtain⟨_,_,⟨b,c,h,_⟩,_⟩:=hv
  exact⟨b,c,h⟩
 refine Cl_of (pol:=polL) Γok Tryz.func86 (by kernel_rfl) rfl ?_
 conv=>whnf
 refine (Cl.newO (c28o d hd H u hu)).use fun r H1 s1 hr=>?_
 obtain⟨_,w0,rfl,hw0⟩:=hr
 conv=>whnf
 refine W_loop (pol:=polL) Γok (Nat × PH × Value) (fun i=>i.1≤l.length∧Sub H1 i.2.1∧((((addedM d (l.take i.1)).1=[])∧i.2.2=.slice none 0 0)∨MatN H i.2.1 i.2.2 (addedM d (l.take i.1)).1)) (fun i=>l.length - i.1) (fun i=>[(17,.v (.int .i64 i.1)),(6,.v i.2.2),(7,.v (.int .i64 (addedM d (l.take i.1)).2))]) (fun _=>[]) (fun i=>i.2.1) (fun _=>emp) ⟨(0,H1,w0),⟨by simp,Sub.refl _,hw0⟩,rfl,rfl,?_⟩ ?_
 ·conv=>whnf
  repeat (refine⟨rfl,?_⟩;conv=>whnf)
  exact trivial
 rintro ⟨i,H2,w⟩ ⟨h1,h2,h3⟩
 dsimp only at h1 h2 h3
 conv=>whnf
 refine if_intro (fun hc=>?_) (fun hc=>?_)
 ·have hi:i < l.length:=by
   have:=of_decide_eq_true hc
   omega
  obtain⟨mb,mo,ux,rfl,hrd,hux⟩:=((hv.up s1).up h2).rd hi
  have hst:addedM d (l.take (i+1))=addStep (addedM d (l.take i)) l[i]:=by
   unfold addedM
   rw[List.take_succ_eq_append_getElem hi,List.foldl_append]
   rfl
  obtain⟨f1,f2⟩:=add_facts hd (l.take i)
  conv=>whnf
  refine dec_intro (by omega) ?_
  conv=>whnf
  refine⟨_,hrd _,?_⟩
  conv=>whnf
  refine if_intro (fun he=>?_) (fun he=>?_)
  ·have he:(addedM d (l.take i)).2=0:=by simpa using he
   have hw:MatH H2 w (addedM d (l.take i)).1:=by
    rcases h3 with⟨h3,h4⟩ | h3
    ·rw[h3,h4];exact nilM _
    ·exact h3.mat
   have hst':addedM d (l.take (i+1))=AddMF (addedM d (l.take i)).1 l[i]:=by
    rw[hst]
    exact if_pos he
   obtain⟨wb,wc,rfl⟩:=MatH.sl hw
   obtain⟨xb,xc,rfl⟩:=MatH.sl hux
   conv=>whnf
   have hlx:l[i].length < 1000000:=hx _ (List.getElem_mem hi)
   refine (Cl.newO (c39 (addedM d (l.take i)).1 l[i] f1 hlx _ _ _ hw hux)).use fun r H3 s3 hr=>?_
   obtain⟨_,w3,rfl,hw3⟩:=hr
   conv=>whnf
   refine⟨(i+1,H3,w3),⟨hi,h2.trans s3,?_⟩,by dsimp only;omega,?_⟩
   ·dsimp only
    rw[hst']
    exact hw3.imp id fun h=>h.base (s1.trans h2)
   refine⟨rfl,rfl,?_⟩
   conv=>whnf
   repeat (refine⟨rfl,?_⟩;conv=>whnf)
   refine⟨by dsimp only;rw[hst'],?_⟩
   conv=>whnf
   repeat (refine⟨rfl,?_⟩;conv=>whnf)
   refine⟨by show En.v (.int .i64 (IntKind.i64.wrap (i+1)))=_;rw[wrap_id (by omega) (by omega)]<;>rfl,?_⟩
   conv=>whnf
   repeat (refine⟨rfl,?_⟩;conv=>whnf)
   exact trivial
  have he:(addedM d (l.take i)).2 ≠ 0:=by simpa using he
  have hst':addedM d (l.take (i+1))=addedM d (l.take i):=by
   rw[hst]
   exact if_neg he
  conv=>whnf
  refine⟨(i+1,H2,w),⟨hi,h2,by dsimp only;rw[hst'];exact h3⟩,by dsimp only;omega,?_⟩
  refine⟨rfl,rfl,?_⟩
  conv=>whnf
  repeat (refine⟨rfl,?_⟩;conv=>whnf)
  refine⟨by dsimp only;rw[hst'],?_⟩
  conv=>whnf
  repeat (refine⟨rfl,?_⟩;conv=>whnf)
  refine⟨by show En.v (.int .i64 (IntKind.i64.wrap (i+1)))=_;rw[wrap_id (by omega) (by omega)]<;>rfl,?_⟩
  conv=>whnf
  repeat (refine⟨rfl,?_⟩;conv=>whnf)
  exact trivial
 have hi:i=l.length:=by
  have:=of_decide_eq_false hc
  omega
 subst hi
 rw[List.take_length] at h3 ⊢
 obtain⟨f1,f2⟩:=add_facts hd l
 conv=>whnf
 refine if_intro (fun he=>?_) (fun he=>?_)
 ·have he:(addedM d l).2 ≠ 0:=by simpa using he
  conv=>whnf
  exact⟨_,rfl,.inl ⟨f2 he,rfl⟩⟩
 ·have he:(addedM d l).2=0:=by simpa using he
  conv=>whnf
  exact⟨w,by rw[he],h3⟩
theorem e86 (d : Mx) (l:List Mx) (hd:d.length < 1000000) (hl:l.length < 1000000) (hx:∀ m∈l,m.length < 1000000) (H:PH) (u v:Value) (hu:MatH H u d) (hv:MatsH H v l):Cl Tryz.prog 86 [u,v] H emp fun r _ M'=>OutO M' r (addedM d l):=
 Cl.mineO (e86n d l hd hl hx H u v hu hv)
def madeM (g : Gt) (n:Int):Mx × Int:=if g.kind < 1∨g.kind > 12 then ([],3) else if (g.ws.length:Int) ≠ arityF g.kind then ([],2) else onX (OfR g.kind).1 g.ws n
theorem opM_least : ∀ k,k < 13→1≤k→checkMF (opM k)=0∧((opM k).all fun r=>r.all fun x=>decide ((LeastF x.1 x.2).2=0))=true:=by decide +kernel
theorem entry_all {m : Mx} {p:P4 × Int→Bool} (h:(m.all fun r=>r.all p)=true) (h0:p (P4.zero,0)=true) (i k:Nat):p (entry m i k)=true:=by
 unfold entry
 rw[List.getD_eq_getElem?_getD,List.getD_eq_getElem?_getD]
 by_cases hi:i < m.length
 ·rw[List.getElem?_eq_getElem hi,Option.getD_some]
  have hr:=List.all_eq_true.1 h _ (List.getElem_mem hi)
  by_cases hk:k < m[i].length
  ·rw[List.getElem?_eq_getElem hk,Option.getD_some]
   exact List.all_eq_true.1 hr _ (List.getElem_mem hk)
  ·rw[List.getElem?_eq_none (Nat.le_of_not_lt hk)]
   exact h0
 ·rw[List.getElem?_eq_none (Nat.le_of_not_lt hi)]
  exact h0
theorem pow3 : ∀ a:Nat,a < 4→shlI 1 (a:Int)=((2 ^ a:Nat):Int):=by decide +kernel
theorem onX_err {k : Nat} (h1:1≤k) (h2:k≤12) {ws:List Int} (hl:ws.length=arN k) {n:Nat} (hn:n≤6):(onX (opM k) ws n).2=placesR ws n∧(placesR ws n=0→(onX (opM k) ws n).1=gridM (onAt (opM k) ws) (2 ^ n) (2 ^ n)):=by
 obtain⟨d1,d2⟩:=opM_dims k (by omega) h1
 obtain⟨l1,l2⟩:=opM_least k (by omega) h1
 have ha:=arityF_range (k:Int)
 have har:arN k≤3:=by
  unfold arN
  omega
 have hpos:0 < (opM k).length:=by rw[d1];exact Nat.pow_pos (by decide)
 have hw:wideM (opM k)=2 ^ arN k:=by
  rw[wideM_get hpos]
  simpa using List.all_eq_true.1 d2 _ (List.getElem_mem hpos)
 have he:onErr (opM k) ws n=placesR ws n:=by
  unfold onErr placesR
  rw[l1,if_neg (by simp),if_neg (by simp;omega)]
  by_cases q1:ws.all (inW n)=false
  ·rw[if_pos q1,if_pos q1]
  rw[if_neg q1,if_neg q1]
  by_cases q2:twiceF ws=true
  ·rw[if_pos q2,if_pos q2]
  rw[if_neg q2,if_neg q2,if_neg]
  rintro (q | q)
  ·rw[d1,hw] at q
   simp at q
  ·rw[d1,hl,pow3 _ (by omega)] at q
   exact q rfl
 have hz:firstErr (errsE (onAt (opM k) ws) (2 ^ n) (2 ^ n))=0:=errs_zero fun i j _ _=>by
  unfold onAt
  split
  ·rfl
  ·have:=entry_all l2 (by decide) (splitF ws ws.length i).1.toNat (splitF ws ws.length j).1.toNat
   simpa using this
 unfold onX
 rw[he]
 by_cases hp:placesR ws n=0
 ·rw[hp,Int.toNat_natCast,resM_ok rfl hz]
  exact⟨rfl,fun _=>rfl⟩
 ·rw[resM_bad hp]
  exact⟨rfl,fun h=>absurd h hp⟩
theorem made_err (g : Gt) {n:Nat} (hn:n≤6):(madeM g n).2=gErr g n∧(gErr g n=0→(madeM g n).1=unitG g n∧(unitG g n).length=2 ^ n∧wideM (unitG g n)=2 ^ n):=by
 unfold madeM gErr unitG
 by_cases h1:g.kind < 1∨g.kind > 12
 ·rw[if_pos h1,if_pos h1]
  exact⟨rfl,fun h=>by cases h⟩
 rw[if_neg h1,if_neg h1]
 by_cases h2:(g.ws.length:Int) ≠ arityF g.kind
 ·rw[if_pos h2,if_pos h2]
  exact⟨rfl,fun h=>by cases h⟩
 rw[if_neg h2,if_neg h2]
 have h2:(g.ws.length:Int)=arityF g.kind:=by simpa using h2
 have hk:OfR g.kind=(opM g.kind.toNat,0):=if_pos (by omega)
 rw[hk]
 have hkt:((g.kind.toNat:Nat):Int)=g.kind:=by omega
 have hl:g.ws.length=arN g.kind.toNat:=by
  unfold arN
  rw[hkt,← h2]
  rfl
 obtain⟨e1,e2⟩:=onX_err (k:=g.kind.toNat) (by omega) (by omega) hl hn
 refine⟨e1,fun hp=>⟨rfl,?_⟩⟩
 have hN:2 ^ n≤2 ^ 6:=Nat.pow_le_pow_right (by decide) hn
 rw[e2 hp]
 exact⟨gridM_len _ _ _,(grid_right _ (Nat.pow_pos (by decide)) (by omega) (Nat.pow_pos (by decide)) (by omega)).2⟩
theorem e153 (g : Gt) (n:Int) (hl:g.ws.length < 100000) (H:PH) (w:Value) (hw:IntsC H w g.ws):Cl Tryz.prog 153 [gv g w,.int .i64 n] H emp fun r _ M'=>OutO M' r (madeM g n):=by
 obtain⟨wb,wc,rfl,hwc,hw⟩:=hw
 refine Cl_of (pol:=polL) Γok Tryz.func153 (by kernel_rfl) rfl ?_
 conv=>whnf
 intro b1
 conv=>whnf
 refine if_intro (fun h1=>?_) (fun h1=>?_)
 ·rw[show madeM g n=([],3) from if_pos (.inl (of_decide_eq_true h1))]
  conv=>whnf
  exact OutO.bad
 conv=>whnf
 refine if_intro (fun h2=>?_) (fun h2=>?_)
 ·rw[show madeM g n=([],3) from if_pos (.inr (of_decide_eq_true h2))]
  conv=>whnf
  exact OutO.bad
 have h12:¬ (g.kind < 1∨g.kind > 12):=fun h=>h.elim (of_decide_eq_false h1) (of_decide_eq_false h2)
 conv=>whnf
 refine W_draw (pol:=polL) Γok mixes [(0,.pend),(1,.pend),(2,.pend),(3,.pendO),(4,.pendO),(5,.lock),(6,.pendO),(7,.pendO)] 38 (by kernel_rfl) rfl ?_
 conv=>whnf
 refine (d75 g.kind _).val fun Ha sa=>?_
 conv=>whnf
 refine if_intro (fun h3=>?_) (fun h3=>?_)
 ·rw[show madeM g n=([],2) by unfold madeM;rw[if_neg h12,if_pos (by simpa using h3)]]
  conv=>whnf
  exact OutO.bad
 rw[show madeM g n=onX (OfR g.kind).1 g.ws n by unfold madeM;rw[if_neg h12,if_neg (by simpa using h3)]]
 conv=>whnf
 refine (Cl.outH (c21m g.kind _)).use fun r Hb sb hr=>?_
 obtain⟨_,u,rfl,hu⟩:=hr
 obtain⟨ub,uc,rfl⟩:=MatH.sl hu
 conv=>whnf
 have hlm:(OfR g.kind).1.length < 1000000:=by
  unfold OfR
  split
  ·rename_i h
   have:=(opM_dims g.kind.toNat (by omega) (by omega)).1
   have ha:=arityF_range ((g.kind.toNat:Nat):Int)
   have har:arN g.kind.toNat≤3:=by
    unfold arN
    omega
   have hp:2 ^ arN g.kind.toNat≤2 ^ 3:=Nat.pow_le_pow_right (by decide) har
   dsimp only
   omega
  ·exact (by decide:0 < 1000000)
 refine (c22o (OfR g.kind).1 hlm g.ws hl n _ _ _ hu (IntsH.up (IntsH.up hw sa) sb)).mono fun r Hc Mc sc hr=>?_
 obtain⟨w2,rfl,hw2⟩:=hr
 obtain⟨wb2,wn2,wc2,rfl⟩:=OwnQ.sl hw2
 conv=>whnf
 exact⟨_,rfl,hw2⟩
theorem mul_len {m n : Mx} (h:m.length < 1000000):(MulMF m n).1.length < 1000000:=res_len (by omega) h
theorem dag_len {m : Mx}:(DaggerMF m).1.length < 1000000:=by
 unfold DaggerMF
 by_cases h:checkMF m=0
 ·have:=(right_of h).wle
  exact res_len (by omega) (by omega)
 ·rw[resM_bad h];exact (by decide:0 < 1000000)
theorem on_len {m : Mx} {ws:List Int} {n:Int} (hn:n≤6):(onX m ws n).1.length < 1000000:=by
 have:2 ^ n.toNat≤2 ^ 6:=Nat.pow_le_pow_right (by decide) (by omega)
 exact res_len (by omega) (by omega)
theorem made_len {g : Gt} {n:Int} (hn:n≤6):(madeM g n).1.length < 1000000:=by
 unfold madeM
 split
 ·exact (by decide:0 < 1000000)
 split
 ·exact (by decide:0 < 1000000)
 ·exact on_len hn
theorem e83 (m : Mx) (g:Gt) (hm:m.length < 1000000) (hl:g.ws.length < 100000) (H:PH) (u w:Value) (hu:MatH H u m) (hw:IntsC H w g.ws):Cl Tryz.prog 83 [u,gv g w] H emp fun r _ M'=>OutO M' r (thenM (madeM g (sizeD m.length)) (aroundM m)):=by
 obtain⟨wb,wc,rfl,_⟩:=id hw
 obtain⟨ub,uc,rfl⟩:=MatH.sl hu
 have hs4:=sizeD_le m.length
 refine Cl_of (pol:=polL) Γok Tryz.func83 (by kernel_rfl) rfl ?_
 conv=>whnf
 intro b1
 conv=>whnf
 refine W_draw (pol:=polL) Γok mixes [(0,.pend),(1,.pendO),(2,.pendO),(3,.lock),(4,.lock),(5,.pendO),(6,.pendO),(7,.pendO),(8,.pendO),(9,.pendO)] 41 (by kernel_rfl) rfl ?_
 conv=>whnf
 refine (e101 m.length _).val fun Ha sa=>?_
 conv=>whnf
 refine (Cl.outH (e153 g (sizeD m.length) hl _ _ (hw.up sa))).use fun r Hb sb hr=>?_
 obtain⟨_,v,rfl,hv⟩:=hr
 obtain⟨vb,vc,rfl⟩:=MatH.sl hv
 conv=>whnf
 refine if_intro (fun he=>?_) (fun he=>?_)
 ·rw[thenM_bad (show (madeM g (sizeD m.length)).2 ≠ 0 by simpa using he)]
  conv=>whnf
  exact OutO.bad
 rw[thenM_ok (show (madeM g (sizeD m.length)).2=0 by simpa using he)]
 unfold aroundM
 have hU:=made_len (g:=g) (n:=sizeD m.length) (by omega)
 generalize (madeM g (sizeD m.length)).1=U at hv hU ⊢
 conv=>whnf
 refine (Cl.outH (c40q U m hU hm _ _ _ hv ((hu.up sa).up sb))).use fun r Hc sc hr=>?_
 obtain⟨_,p,rfl,hp⟩:=hr
 obtain⟨pb,pc,rfl⟩:=MatH.sl hp
 conv=>whnf
 refine if_intro (fun he=>?_) (fun he=>?_)
 ·rw[thenM_bad (show (MulMF U m).2 ≠ 0 by simpa using he)]
  conv=>whnf
  exact OutO.bad
 rw[thenM_ok (show (MulMF U m).2=0 by simpa using he)]
 conv=>whnf
 refine (Cl.outH (c53 U hU _ _ (hv.up sc))).use fun r Hd sd hr=>?_
 obtain⟨_,t,rfl,ht⟩:=hr
 obtain⟨tb,tc,rfl⟩:=MatH.sl ht
 conv=>whnf
 refine (c40q (MulMF U m).1 (DaggerMF U).1 (mul_len hU) dag_len _ _ _ (hp.up sd) ht).mono fun r He Me se hr=>?_
 obtain⟨w2,rfl,hw2⟩:=hr
 obtain⟨wb2,wn2,wc2,rfl⟩:=OwnQ.sl hw2
 conv=>whnf
 exact⟨_,rfl,hw2⟩
theorem e77 (m : Mx) (g:Gt) (hl:g.ws.length < 100000) (H:PH) (u w:Value) (hu:MatH H u m) (hw:IntsC H w g.ws):Cl Tryz.prog 77 [u,gv g w] H emp fun r H' _=>OutH H' r (aroundM m (unitG g (sizeD m.length))):=by
 obtain⟨ub,uc,rfl⟩:=MatH.sl hu
 obtain⟨wb,wc,rfl,hwc,hw⟩:=hw
 have hs4:=sizeD_le m.length
 refine Cl_of (pol:=polL) Γok Tryz.func77 (by kernel_rfl) rfl ?_
 conv=>whnf
 intro b1
 conv=>whnf
 refine (c18 g.kind _).use fun r Hz sz hr=>?_
 obtain⟨_,k,rfl,hk⟩:=hr
 obtain⟨kb,kc,rfl⟩:=MatH.sl hk
 conv=>whnf
 refine W_draw (pol:=polL) Γok mixes [(0,.pend),(1,.pend),(2,.pend),(3,.pendO),(4,.pendO),(5,.lock),(6,.lock),(7,.pendO),(8,.pendO),(9,.pendO),(10,.pendO),(11,.pendO)] 49 (by kernel_rfl) rfl ?_
 conv=>whnf
 refine (e53 m.length _).val fun Ha sa=>?_
 conv=>whnf
 have hlm:(OfR g.kind).1.length < 1000000:=by
  unfold OfR
  split
  ·rename_i h
   have:=(opM_dims g.kind.toNat (by omega) (by omega)).1
   have ha:=arityF_range ((g.kind.toNat:Nat):Int)
   have har:arN g.kind.toNat≤3:=by
    unfold arN
    omega
   have hp:2 ^ arN g.kind.toNat≤2 ^ 3:=Nat.pow_le_pow_right (by decide) har
   dsimp only
   omega
  ·exact (by decide:0 < 1000000)
 refine (Cl.outH (c19 (OfR g.kind).1 hlm g.ws hl (sizeD m.length) _ _ _ (hk.up sa) (IntsH.up (IntsH.up hw sz) sa))).use fun r Hb sb hr=>?_
 obtain⟨_,v,rfl,hv⟩:=hr
 obtain⟨vb,vc,rfl⟩:=MatH.sl hv
 have hU:(unitG g (sizeD m.length)).length < 1000000:=on_len (by omega)
 replace hv:MatH Hb _ (unitG g (sizeD m.length)):=hv
 have ev:(resM (onErr (OfR g.kind).1 g.ws (sizeD m.length)) (onAt (OfR g.kind).1 g.ws) (2 ^ (sizeD m.length).toNat) (2 ^ (sizeD m.length).toNat)).1.length=(unitG g (sizeD m.length)).length:=rfl
 rw[ev] at hv ⊢
 unfold aroundM
 generalize unitG g (sizeD m.length)=U at hv hU ⊢
 conv=>whnf
 have hc:=c57 U _ _ hv
 rw[← DaggerM_eq] at hc
 refine hc.use fun r Hd sd hr=>?_
 obtain⟨_,t,rfl,ht⟩:=hr
 obtain⟨tb,tc,rfl⟩:=MatH.sl ht
 conv=>whnf
 have hc:=c36 U m _ _ _ (hv.up sd) ((((hu.up sz).up sa).up sb).up sd)
 rw[← MulM_eq] at hc
 refine hc.use fun r Hc sc hr=>?_
 obtain⟨_,p,rfl,hp⟩:=hr
 obtain⟨pb,pc,rfl⟩:=MatH.sl hp
 conv=>whnf
 refine if_intro (fun he=>?_) (fun he=>?_)
 ·rw[thenM_bad (show (MulMF U m).2 ≠ 0 by simpa using he)]
  conv=>whnf
  exact OutH.bad
 rw[thenM_ok (show (MulMF U m).2=0 by simpa using he)]
 conv=>whnf
 have hc:=c36 (MulMF U m).1 (DaggerMF U).1 _ _ _ hp (ht.up sc)
 rw[← MulM_eq] at hc
 refine hc.use fun r He se hr=>?_
 obtain⟨_,w2,rfl,hw2⟩:=hr
 obtain⟨wb2,wc2,rfl⟩:=MatH.sl hw2
 conv=>whnf
 exact⟨_,rfl,hw2⟩
theorem apply_eq (m : Mx) (g:Gt) {n:Nat} (hd:Den m n):thenM (madeM g (sizeD m.length)) (aroundM m)=applyM m g:=by
 unfold applyM
 rw[if_neg (by rw[hd.err];simp),hd.size]
 obtain⟨e1,e2⟩:=made_err g (n:=n) (by have:=hd.le;omega)
 by_cases h:gErr g n=0
 ·rw[thenM_ok (by rw[e1];exact h),if_neg (by rw[h];simp),(e2 h).1]
 ·rw[thenM_bad (by rw[e1];exact h),if_pos h,e1]
theorem e29 (m : Mx) (g:Gt) (hm:m.length < 1000000) (hl:g.ws.length < 100000) (H:PH) (u w:Value) (hu:MatH H u m) (hw:IntsC H w g.ws):Cl Tryz.prog 29 [u,gv g w] H emp fun r _ M'=>OutO M' r (applyM m g):=by
 obtain⟨wb,wc,rfl,_⟩:=id hw
 obtain⟨ub,uc,rfl⟩:=MatH.sl hu
 refine Cl_of (pol:=polL) Γok Tryz.func29 (by kernel_rfl) rfl ?_
 conv=>whnf
 intro b1
 conv=>whnf
 refine (e48 m hm _ _ hu).val fun Ha sa=>?_
 conv=>whnf
 refine if_intro (fun he=>?_) (fun he=>?_)
 ·rw[show applyM m g=([],denErr m) from if_pos (show denErr m ≠ 0 by simpa using he)]
  conv=>whnf
  exact OutO.bad
 obtain⟨n,hd⟩:=den_of (show denErr m=0 by simpa using he)
 rw[← apply_eq m g hd]
 conv=>whnf
 refine (e83 m g hm hl _ _ _ (hu.up sa) (hw.up sa)).mono fun r He Me se hr=>?_
 obtain⟨w2,rfl,hw2⟩:=hr
 obtain⟨wb2,wn2,wc2,rfl⟩:=OwnQ.sl hw2
 conv=>whnf
 exact⟨_,rfl,hw2⟩
theorem e22 (m : Mx) (g:Gt) (hl:g.ws.length < 100000) (H:PH) (u w:Value) (hu:MatH H u m) (hw:IntsC H w g.ws):Cl Tryz.prog 22 [u,gv g w] H emp fun r H' _=>OutH H' r (applyM m g):=by
 obtain⟨wb,wc,rfl,_⟩:=id hw
 obtain⟨ub,uc,rfl⟩:=MatH.sl hu
 refine Cl_of (pol:=polL) Γok Tryz.func22 (by kernel_rfl) rfl ?_
 conv=>whnf
 intro b1
 conv=>whnf
 refine (e49 m _ _ hu).val fun Ha sa=>?_
 conv=>whnf
 refine if_intro (fun he=>?_) (fun he=>?_)
 ·rw[show applyM m g=([],denErr m) from if_pos (show denErr m ≠ 0 by simpa using he)]
  conv=>whnf
  exact OutH.bad
 obtain⟨n,hd⟩:=den_of (show denErr m=0 by simpa using he)
 have e0:applyM m g=if gErr g (sizeD m.length) ≠ 0 then ([],gErr g (sizeD m.length)) else aroundM m (unitG g (sizeD m.length)):=if_neg (by simpa using he)
 rw[e0]
 conv=>whnf
 refine W_draw (pol:=polL) Γok mixes [(0,.pend),(1,.pendO),(2,.pendO),(3,.lock),(4,.lock),(5,.pendO)] 26 (by kernel_rfl) rfl ?_
 conv=>whnf
 refine (e53 m.length _).val fun Hb sb=>?_
 conv=>whnf
 refine (d71 g (sizeD m.length) (by omega) _ _ ((hw.up sa).up sb)).val fun Hc sc=>?_
 conv=>whnf
 refine if_intro (fun he=>?_) (fun he=>?_)
 ·rw[if_pos (show gErr g (sizeD m.length) ≠ 0 by simpa using he)]
  conv=>whnf
  exact OutH.bad
 rw[if_neg (show ¬ gErr g (sizeD m.length) ≠ 0 by simpa using he)]
 conv=>whnf
 refine (e77 m g hl _ _ _ (((hu.up sa).up sb).up sc) (((hw.up sa).up sb).up sc)).use fun r He se hr=>?_
 obtain⟨_,w2,rfl,hw2⟩:=hr
 obtain⟨wb2,wc2,rfl⟩:=MatH.sl hw2
 conv=>whnf
 exact⟨_,rfl,hw2⟩
theorem kept_facts {m : Mx} {N:Nat} (hc:checkMF m=0) (h1:m.length=N) (hw:wideM m=N) (w:Nat) (x:Int):checkMF (keptM m w x)=0∧(keptM m w x).length=N∧wideM (keptM m w x)=N∧LeastMF (keptM m w x)=(keptM m w x,0):=by
 have rm:=right_of hc
 have p1:0 < N:=by rw[← h1];exact rm.pos
 have p2:N≤64:=by rw[← h1];exact rm.le
 have key:∀ i k,i < N→k < N→IsL (keptAt m w x i k).1:=fun i k hi hk=>by
  unfold keptAt
  split
  ·have h:=entry_right hc (i:=i) (k:=k) (by omega) (by omega)
   rw[LeastF_eq h]
   exact form_L h
  ·exact zero_L
 obtain⟨c1,c2⟩:=grid_check (F:=keptAt m w x) p1 p2 fun i k hi hk=>(key i k hi hk).ok
 have e:keptM m w x=gridM (keptAt m w x) N N:=by unfold keptM;rw[h1]
 rw[e]
 have g:=gridM_shape (keptAt m w x) N N
 refine⟨c1,g.1,c2,?_⟩
 unfold LeastMF
 rw[← checkMF_checkMR,c1,if_neg (by simp)]
 refine congrArg (·,(0:Int)) ?_
 refine mat_ext (h:=N) (w:=N) (by simp[g.1]) (fun i r hr=>?_) g.1 g.2 fun i k hi hk=>?_
 ·obtain⟨r',hr',rfl⟩:=List.mem_map.1 (List.mem_of_getElem? hr)
  obtain⟨j,hj,e'⟩:=List.mem_iff_getElem.1 hr'
  have:=g.2 j r' (by rw[List.getElem?_eq_getElem hj,e'])
  simpa[formsR] using this
 ·have hi':i < (gridM (keptAt m w x) N N).length:=by rw[g.1];exact hi
  have hk':k < ((gridM (keptAt m w x) N N)[i]'hi').length:=by rw[g.2 i _ (List.getElem?_eq_getElem hi')];exact hk
  rw[forms_entry _ hi' hk',gridM_entry _ hi hk]
  exact (key i k hi hk).form
theorem added_kept {m : Mx} {N:Nat} (hc:checkMF m=0) (h1:m.length=N) (hw:wideM m=N) (w:Nat) (x:Int) (y:Mx):addedM (keptM m w x) [y]=AddMF (keptM m w x) y:=by
 unfold addedM
 rw[(kept_facts hc h1 hw w x).2.2.2]
 show addStep (keptM m w x,0) y=_
 unfold addStep
 exact if_pos rfl
theorem wired_ok {m : Mx} {w:Int} (h:wiredErr m w=0):∃ n k:Nat,Den m n∧w=(k:Int)∧k < n:=by
 unfold wiredErr at h
 by_cases h1:denErr m ≠ 0
 ·rw[if_pos h1] at h;exact absurd h h1
 rw[if_neg h1] at h
 obtain⟨n,hd⟩:=den_of (by simpa using h1)
 rw[hd.size] at h
 by_cases h2:w < 0∨w ≥ (n:Int)
 ·rw[if_pos h2] at h;cases h
 ·exact⟨n,w.toNat,hd,by omega,by omega⟩
theorem xgate_ok : ∀ n:Nat,n < 5→∀ k:Nat,k < n→gErr (xGt (k:Int)) (n:Int)=0:=by decide +kernel
theorem e30 (m : Mx) (w x:Int) (hm:m.length < 1000000) (H:PH) (u:Value) (hu:MatH H u m):Cl Tryz.prog 30 [u,.int .i64 w,.int .i64 x] H emp fun r _ M'=>OutO M' r (findM m w x):=by
 obtain⟨ub,uc,rfl⟩:=MatH.sl hu
 refine Cl_of (pol:=polL) Γok Tryz.func30 (by kernel_rfl) rfl ?_
 conv=>whnf
 refine (e84 m w hm _ _ hu).val fun Ha sa=>?_
 conv=>whnf
 refine if_intro (fun he=>?_) (fun he=>?_)
 ·rw[show findM m w x=([],wiredErr m w) from if_pos (show wiredErr m w ≠ 0 by simpa using he)]
  conv=>whnf
  exact OutO.bad
 have h0:wiredErr m w=0:=by simpa using he
 obtain⟨n,k,hd,rfl,hk⟩:=wired_ok h0
 have e0:findM m k x=if x ≠ 0∧x ≠ 1 then ([],3) else (keptM m k x,0):=by unfold findM;rw[if_neg (by rw[h0];simp)]<;>rfl
 rw[e0]
 have hN:=pow_le16 hd.le
 have hle:=hd.le
 have main:∀ (H':PH) (u':Value),MatH H' u' m→Cl Tryz.prog 85 [u',.int .i64 k,.int .i64 x] H' emp fun r _ M'=>OwnM M' r (2 ^ n) (2 ^ n) (keptM m k x):=fun H' u' h=>e85 m k x hd.chk (2 ^ n) hN hd.len hd.wid (by omega) H' u' h
 conv=>whnf
 refine if_intro (fun h1=>?_) (fun h1=>?_)
 ·have h1:x ≠ 0:=by simpa using h1
  conv=>whnf
  refine if_intro (fun h2=>?_) (fun h2=>?_)
  ·rw[if_pos ⟨h1,by simpa using h2⟩]
   conv=>whnf
   exact OutO.bad
  ·rw[if_neg (fun h=>h.2 (by simpa using h2))]
   conv=>whnf
   refine (main _ _ (hu.up sa)).mono fun r H2 M2 s2 hr=>?_
   conv=>whnf
   exact⟨_,rfl,.inr ⟨_,_,by omega,by omega,hr⟩⟩
 ·rw[if_neg (fun h=>h.1 (by simpa using h1))]
  conv=>whnf
  refine (main _ _ (hu.up sa)).mono fun r H2 M2 s2 hr=>?_
  conv=>whnf
  exact⟨_,rfl,.inr ⟨_,_,by omega,by omega,hr⟩⟩
theorem e23 (m : Mx) (w x:Int) (H:PH) (u:Value) (hu:MatH H u m):Cl Tryz.prog 23 [u,.int .i64 w,.int .i64 x] H emp fun r H' _=>OutH H' r (findM m w x):=by
 obtain⟨ub,uc,rfl⟩:=MatH.sl hu
 refine Cl_of (pol:=polL) Γok Tryz.func23 (by kernel_rfl) rfl ?_
 conv=>whnf
 refine (e78 m w _ _ hu).val fun Ha sa=>?_
 conv=>whnf
 refine if_intro (fun he=>?_) (fun he=>?_)
 ·rw[show findM m w x=([],wiredErr m w) from if_pos (show wiredErr m w ≠ 0 by simpa using he)]
  conv=>whnf
  exact OutH.bad
 have h0:wiredErr m w=0:=by simpa using he
 obtain⟨n,k,hd,rfl,hk⟩:=wired_ok h0
 have e0:findM m k x=if x ≠ 0∧x ≠ 1 then ([],3) else (keptM m k x,0):=by unfold findM;rw[if_neg (by rw[h0];simp)]<;>rfl
 rw[e0]
 have hN:=pow_le16 hd.le
 have hle:=hd.le
 conv=>whnf
 refine if_intro (fun h1=>?_) (fun h1=>?_)
 ·have h1:=of_decide_eq_true h1
  rw[if_pos ⟨by omega,by omega⟩]
  conv=>whnf
  exact OutH.bad
 have h1:=of_decide_eq_false h1
 conv=>whnf
 refine if_intro (fun h2=>?_) (fun h2=>?_)
 ·have h2:=of_decide_eq_true h2
  rw[if_pos ⟨by omega,by omega⟩]
  conv=>whnf
  exact OutH.bad
 have h2:=of_decide_eq_false h2
 rw[if_neg (by omega)]
 conv=>whnf
 refine (e79 m k x hd.chk (2 ^ n) hN hd.len hd.wid (by omega) _ _ (hu.up sa)).use fun r Hb sb hr=>?_
 obtain⟨_,hr⟩:=hr
 conv=>whnf
 exact⟨_,rfl,hr⟩
theorem e31 (m : Mx) (w:Int) (hm:m.length < 1000000) (H:PH) (u:Value) (hu:MatH H u m):Cl Tryz.prog 31 [u,.int .i64 w] H emp fun r _ M'=>OutO M' r (forgetM m w):=by
 obtain⟨ub,uc,rfl⟩:=MatH.sl hu
 refine Cl_of (pol:=fun | 19=>.imm | _=>.loc) Γok Tryz.func31 (by kernel_rfl) rfl ?_
 conv=>whnf
 refine (e84 m w hm _ _ hu).val fun Ha sa=>?_
 conv=>whnf
 refine if_intro (fun he=>?_) (fun he=>?_)
 ·rw[show forgetM m w=([],wiredErr m w) from if_pos (show wiredErr m w ≠ 0 by simpa using he)]
  conv=>whnf
  exact OutO.bad
 have h0:wiredErr m w=0:=by simpa using he
 obtain⟨n,k,hd,rfl,hk⟩:=wired_ok h0
 rw[show forgetM m k=addedM (keptM m k 0) [keptM m k 1] by unfold forgetM;rw[if_neg (by rw[h0];simp),added_kept hd.chk hd.len hd.wid];rfl]
 have hN:=pow_le16 hd.le
 have hle:=hd.le
 obtain⟨_,l0,_⟩:=kept_facts hd.chk hd.len hd.wid k 0
 obtain⟨_,l1,_⟩:=kept_facts hd.chk hd.len hd.wid k 1
 conv=>whnf
 refine (Cl.newM (by omega) (by omega) (e85 m k 0 hd.chk (2 ^ n) hN hd.len hd.wid (by omega) _ _ (hu.up sa))).use fun v0 Hb sb hr=>?_
 obtain⟨_,hr⟩:=hr
 have h0':=hr.mat
 conv=>whnf
 refine (Cl.newM (by omega) (by omega) (e85 m k 1 hd.chk (2 ^ n) hN hd.len hd.wid (by omega) _ _ ((hu.up sa).up sb))).use fun v1 Hc sc hr=>?_
 obtain⟨_,hr⟩:=hr
 have h1':=hr.mat
 obtain⟨b1,c1,rfl⟩:=MatH.sl h1'
 conv=>whnf
 intro bl hbl hOl
 conv=>whnf
 have sl:=sub_ins Hc (.cells ⟨[.slice b1 (keptM m k 1).length c1]⟩ 23 (0,0)) hbl
 refine (e86 (keptM m k 0) [keptM m k 1] (by omega) (by simp) (by simp;omega) _ _ _ ((h0'.up sc).up sl) (one_mats (ins_same _ _ _) (h1'.up sl))).mono fun r Hd Md sd hr=>?_
 obtain⟨w2,rfl,hw2⟩:=hr
 obtain⟨wb2,wn2,wc2,rfl⟩:=OwnQ.sl hw2
 conv=>whnf
 exact⟨_,rfl,hw2⟩
theorem e24 (m : Mx) (w:Int) (H:PH) (u:Value) (hu:MatH H u m):Cl Tryz.prog 24 [u,.int .i64 w] H emp fun r H' _=>OutH H' r (forgetM m w):=by
 obtain⟨ub,uc,rfl⟩:=MatH.sl hu
 refine Cl_of (pol:=polL) Γok Tryz.func24 (by kernel_rfl) rfl ?_
 conv=>whnf
 refine (e78 m w _ _ hu).val fun Ha sa=>?_
 conv=>whnf
 refine if_intro (fun he=>?_) (fun he=>?_)
 ·rw[show forgetM m w=([],wiredErr m w) from if_pos (show wiredErr m w ≠ 0 by simpa using he)]
  conv=>whnf
  exact OutH.bad
 have h0:wiredErr m w=0:=by simpa using he
 obtain⟨n,k,hd,rfl,hk⟩:=wired_ok h0
 rw[show forgetM m k=AddMR (keptM m k 0) (keptM m k 1) by unfold forgetM;rw[if_neg (by rw[h0];simp),AddM_eq];rfl]
 have hN:=pow_le16 hd.le
 have hle:=hd.le
 conv=>whnf
 refine (e79 m k 0 hd.chk (2 ^ n) hN hd.len hd.wid (by omega) _ _ (hu.up sa)).use fun v0 Hb sb hr=>?_
 obtain⟨_,h0'⟩:=hr
 conv=>whnf
 refine (e79 m k 1 hd.chk (2 ^ n) hN hd.len hd.wid (by omega) _ _ ((hu.up sa).up sb)).use fun v1 Hc sc hr=>?_
 obtain⟨_,h1'⟩:=hr
 conv=>whnf
 refine (c35 (keptM m k 0) (keptM m k 1) _ _ _ (h0'.up sc) h1').use fun r Hd sd hr=>?_
 obtain⟨_,w2,rfl,hw2⟩:=hr
 obtain⟨wb2,wc2,rfl⟩:=MatH.sl hw2
 conv=>whnf
 exact⟨_,rfl,hw2⟩
theorem around_len {m u : Mx} (h:u.length < 1000000):(aroundM m u).1.length < 1000000:=by
 unfold aroundM
 by_cases he:(MulMF u m).2=0
 ·rw[thenM_ok he];exact mul_len (mul_len h)
 ·rw[thenM_bad he];exact (by decide:0 < 1000000)
theorem e87 (m : Mx) (n k:Nat) (hc:checkMF m=0) (hl:m.length=2 ^ n) (hw:wideM m=2 ^ n) (hn:n≤4) (hk:k < n) (H:PH) (u:Value) (hu:MatH H u m):Cl Tryz.prog 87 [u,.int .i64 k] H emp fun r _ M'=>OutO M' r (resetR m k n):=by
 have hN:=pow_le16 hn
 obtain⟨ub,uc,rfl⟩:=MatH.sl hu
 obtain⟨c1,l1,w1,_⟩:=kept_facts hc hl hw k 1
 obtain⟨c0,l0,w0,_⟩:=kept_facts hc hl hw k 0
 have hsz:sizeD (keptM m k 1).length=n:=by rw[l1];exact sizeD_at n (by omega)
 have hmade:thenM (madeM (xGt k) (sizeD (keptM m k 1).length)) (aroundM (keptM m k 1))=aroundM (keptM m k 1) (unitG (xGt k) n):=by
  rw[hsz]
  obtain⟨e1,e2⟩:=made_err (xGt k) (n:=n) (by omega)
  have hg:=xgate_ok n (by omega) k hk
  rw[thenM_ok (by rw[e1];exact hg),(e2 hg).1]
 refine Cl_of (pol:=fun | 13=>.imm | 25=>.imm | _=>.loc) Γok Tryz.func87 (by kernel_rfl) rfl ?_
 conv=>whnf
 refine (Cl.newM (by omega) (by omega) (e85 m k 1 hc (2 ^ n) hN hl hw (by omega) _ _ hu)).use fun v1 Ha sa hr=>?_
 obtain⟨_,hr⟩:=hr
 have h1':=hr.mat
 obtain⟨b1,cc1,rfl⟩:=MatH.sl h1'
 conv=>whnf
 intro bw hbw hOw
 conv=>whnf
 have sw:=sub_ins Ha (.cells ⟨[.int .i64 k]⟩ 3 (0,0)) hbw
 have hws:IntsC (ins Ha bw (.cells ⟨[.int .i64 k]⟩ 3 (0,0))) (.slice (some ⟨bw,0,none⟩) 1 1) (xGt k).ws:=⟨_,_,rfl,Nat.le_refl _,⟨_,_,rfl,.inr ⟨bw,0,_,_,_,rfl,ins_same _ _ _,rfl⟩⟩⟩
 have hcall:=e83 (keptM m k 1) (xGt k) (by omega) (by simp[xGt]) _ _ _ (h1'.up sw) hws
 rw[hmade] at hcall
 unfold resetR
 rw[Int.toNat_natCast]
 have hUl:(unitG (xGt k) n).length < 1000000:=on_len (by omega)
 have hAl:=around_len (m:=keptM m k 1) hUl
 refine (Cl.outH hcall).use fun r Hb sb hr=>?_
 obtain⟨_,y,rfl,hy⟩:=hr
 generalize aroundM (keptM m k 1) (unitG (xGt k) n)=A at hy hAl ⊢
 obtain⟨yb,yc,rfl⟩:=MatH.sl hy
 conv=>whnf
 refine if_intro (fun he=>?_) (fun he=>?_)
 ·rw[thenM_bad (show A.2 ≠ 0 by simpa using he)]
  conv=>whnf
  exact OutO.bad
 rw[thenM_ok (show A.2=0 by simpa using he),← added_kept hc hl hw]
 conv=>whnf
 refine (Cl.newM (by omega) (by omega) (e85 m k 0 hc (2 ^ n) hN hl hw (by omega) _ _ (((hu.up sa).up sw).up sb))).use fun v0 Hc sc hr=>?_
 obtain⟨_,hr⟩:=hr
 have h0':=hr.mat
 conv=>whnf
 intro bl hbl hOl
 conv=>whnf
 have sl:=sub_ins Hc (.cells ⟨[.slice yb A.1.length yc]⟩ 23 (0,0)) hbl
 refine (e86 (keptM m k 0) [A.1] (by omega) (by simp) (by simpa using hAl) _ _ _ (h0'.up sl) (one_mats (ins_same _ _ _) ((hy.up sc).up sl))).mono fun r Hd Md sd hr=>?_
 obtain⟨w2,rfl,hw2⟩:=hr
 obtain⟨wb2,wn2,wc2,rfl⟩:=OwnQ.sl hw2
 conv=>whnf
 exact⟨_,rfl,hw2⟩
theorem e32 (m : Mx) (w:Int) (hm:m.length < 1000000) (H:PH) (u:Value) (hu:MatH H u m):Cl Tryz.prog 32 [u,.int .i64 w] H emp fun r _ M'=>OutO M' r (resetM m w):=by
 obtain⟨ub,uc,rfl⟩:=MatH.sl hu
 refine Cl_of (pol:=polL) Γok Tryz.func32 (by kernel_rfl) rfl ?_
 conv=>whnf
 refine (e84 m w hm _ _ hu).val fun Ha sa=>?_
 conv=>whnf
 refine if_intro (fun he=>?_) (fun he=>?_)
 ·rw[show resetM m w=([],wiredErr m w) from if_pos (show wiredErr m w ≠ 0 by simpa using he)]
  conv=>whnf
  exact OutO.bad
 have h0:wiredErr m w=0:=by simpa using he
 obtain⟨n,k,hd,rfl,hk⟩:=wired_ok h0
 rw[show resetM m k=resetR m k n by unfold resetM;rw[if_neg (by rw[h0];simp),hd.size]]
 conv=>whnf
 refine (e87 m n k hd.chk hd.len hd.wid hd.le hk _ _ (hu.up sa)).mono fun r Hd Md sd hr=>?_
 obtain⟨w2,rfl,hw2⟩:=hr
 obtain⟨wb2,wn2,wc2,rfl⟩:=OwnQ.sl hw2
 conv=>whnf
 exact⟨_,rfl,hw2⟩
theorem e25 (m : Mx) (w:Int) (H:PH) (u:Value) (hu:MatH H u m):Cl Tryz.prog 25 [u,.int .i64 w] H emp fun r H' _=>OutH H' r (resetM m w):=by
 obtain⟨ub,uc,rfl⟩:=MatH.sl hu
 refine Cl_of (pol:=fun | 20=>.imm | _=>.loc) Γok Tryz.func25 (by kernel_rfl) rfl ?_
 conv=>whnf
 refine (e78 m w _ _ hu).val fun Ha sa=>?_
 conv=>whnf
 refine if_intro (fun he=>?_) (fun he=>?_)
 ·rw[show resetM m w=([],wiredErr m w) from if_pos (show wiredErr m w ≠ 0 by simpa using he)]
  conv=>whnf
  exact OutH.bad
 have h0:wiredErr m w=0:=by simpa using he
 obtain⟨n,k,hd,rfl,hk⟩:=wired_ok h0
 have hN:=pow_le16 hd.le
 have hle:=hd.le
 obtain⟨c1,l1,w1,_⟩:=kept_facts hd.chk hd.len hd.wid k 1
 have hsz:sizeD (keptM m k 1).length=n:=by rw[l1];exact sizeD_at n (by omega)
 rw[show resetM m k=resetR m k n by unfold resetM;rw[if_neg (by rw[h0];simp),hd.size]]
 unfold resetR
 rw[Int.toNat_natCast]
 conv=>whnf
 refine (e79 m k 1 hd.chk (2 ^ n) hN hd.len hd.wid (by omega) _ _ (hu.up sa)).use fun v1 Hb sb hr=>?_
 obtain⟨_,h1'⟩:=hr
 obtain⟨b1,cc1,rfl⟩:=MatH.sl h1'
 conv=>whnf
 intro bw hbw hOw
 conv=>whnf
 have sw:=sub_ins Hb (.cells ⟨[.int .i64 k]⟩ 3 (0,0)) hbw
 have hws:IntsC (ins Hb bw (.cells ⟨[.int .i64 k]⟩ 3 (0,0))) (.slice (some ⟨bw,0,none⟩) 1 1) (xGt k).ws:=⟨_,_,rfl,Nat.le_refl _,⟨_,_,rfl,.inr ⟨bw,0,_,_,_,rfl,ins_same _ _ _,rfl⟩⟩⟩
 have hcall:=e77 (keptM m k 1) (xGt k) (by simp[xGt]) _ _ _ (h1'.up sw) hws
 rw[hsz] at hcall
 refine hcall.use fun r Hc sc hr=>?_
 obtain⟨_,y,rfl,hy⟩:=hr
 generalize aroundM (keptM m k 1) (unitG (xGt k) n)=A at hy ⊢
 obtain⟨yb,yc,rfl⟩:=MatH.sl hy
 conv=>whnf
 refine if_intro (fun he=>?_) (fun he=>?_)
 ·rw[thenM_bad (show A.2 ≠ 0 by simpa using he)]
  conv=>whnf
  exact OutH.bad
 rw[thenM_ok (show A.2=0 by simpa using he),AddM_eq]
 conv=>whnf
 refine (e79 m k 0 hd.chk (2 ^ n) hN hd.len hd.wid (by omega) _ _ ((((hu.up sa).up sb).up sw).up sc)).use fun v0 Hd sd hr=>?_
 obtain⟨_,h0'⟩:=hr
 conv=>whnf
 refine (c35 (keptM m k 0) A.1 _ _ _ h0' (hy.up sd)).use fun r He se hr=>?_
 obtain⟨_,w2,rfl,hw2⟩:=hr
 obtain⟨wb2,wc2,rfl⟩:=MatH.sl hw2
 conv=>whnf
 exact⟨_,rfl,hw2⟩
theorem findM_len {m : Mx} {w x:Int} (hm:m.length < 1000000):(findM m w x).1.length < 1000000:=by
 unfold findM
 split
 ·exact (by decide:0 < 1000000)
 split
 ·exact (by decide:0 < 1000000)
 ·show (keptM m w.toNat x).length < 1000000
  rw[kept_shape]
  exact hm
theorem e34 (m : Mx) (w:Int) (hm:m.length < 1000000) (H:PH) (u:Value) (hu:MatH H u m):Cl Tryz.prog 34 [u,.int .i64 w] H emp fun r _ _=>r=ne (oddsM m w):=by
 refine Cl_of (pol:=polL) Γok Tryz.func34 (by kernel_rfl) rfl ?_
 conv=>whnf
 intro b4
 conv=>whnf
 have hodd:oddsM m w=if (findM m w 1).2 ≠ 0 then ((P4.zero,0),(findM m w 1).2) else TraceF (findM m w 1).1:=by
  unfold oddsM findM
  by_cases h:wiredErr m w ≠ 0
  ·rw[if_pos h,if_pos h,if_pos h]
  ·rw[if_neg h,if_neg h,if_neg (show ¬ ((1:Int) ≠ 0∧(1:Int) ≠ 1) by omega)]
   rfl
 rw[hodd]
 refine (Cl.outH (e30 m w 1 hm _ _ hu)).use fun r Ha sa hr=>?_
 obtain⟨_,y,rfl,hy⟩:=hr
 have hl:=findM_len (w:=w) (x:=1) hm
 generalize findM m w 1=A at hy hl ⊢
 conv=>whnf
 refine if_intro (fun he=>?_) (fun he=>?_)
 ·rw[if_pos (show A.2 ≠ 0 by simpa using he)]
  conv=>whnf
  rfl
 rw[if_neg (show ¬ A.2 ≠ 0 by simpa using he)]
 conv=>whnf
 refine (c60 A.1 hl _ _ hy).val fun Hb sb=>?_
 conv=>whnf
 rfl
theorem e27 (m : Mx) (w:Int) (hm:m.length < 1000000) (H:PH) (u:Value) (hu:MatH H u m):Cl Tryz.prog 27 [u,.int .i64 w] H emp fun r _ _=>r=ne (oddsM m w):=by
 refine Cl_of (pol:=polL) Γok Tryz.func27 (by kernel_rfl) rfl ?_
 conv=>whnf
 intro b4
 conv=>whnf
 refine (e78 m w _ _ hu).val fun Ha sa=>?_
 conv=>whnf
 refine if_intro (fun he=>?_) (fun he=>?_)
 ·rw[show oddsM m w=((P4.zero,0),wiredErr m w) from if_pos (show wiredErr m w ≠ 0 by simpa using he)]
  conv=>whnf
  rfl
 have h0:wiredErr m w=0:=by simpa using he
 obtain⟨n,k,hd,rfl,hk⟩:=wired_ok h0
 have hN:=pow_le16 hd.le
 have hle:=hd.le
 rw[show oddsM m k=TraceF (keptM m k 1) by unfold oddsM;rw[if_neg (by rw[h0];simp)];rfl]
 conv=>whnf
 refine (e79 m k 1 hd.chk (2 ^ n) hN hd.len hd.wid (by omega) _ _ (hu.up sa)).use fun v1 Hb sb hr=>?_
 obtain⟨_,h1'⟩:=hr
 conv=>whnf
 refine (c58 (keptM m k 1) (by rw[kept_shape];exact hm) _ _ h1').val fun Hc sc=>?_
 conv=>whnf
 rfl
theorem e35 (m : Mx) (hm:m.length < 1000000) (H:PH) (u:Value) (hu:MatH H u m):Cl Tryz.prog 35 [u] H emp fun r _ _=>r=ne (purityM m):=by
 refine Cl_of (pol:=polL) Γok Tryz.func35 (by kernel_rfl) rfl ?_
 conv=>whnf
 intro b4
 conv=>whnf
 unfold purityM
 refine (e48 m hm _ _ hu).val fun Ha sa=>?_
 conv=>whnf
 refine if_intro (fun he=>?_) (fun he=>?_)
 ·rw[if_pos (show denErr m ≠ 0 by simpa using he)]
  conv=>whnf
  rfl
 rw[if_neg (show ¬ denErr m ≠ 0 by simpa using he)]
 conv=>whnf
 refine (Cl.outH (c40q m m hm hm _ _ _ (hu.up sa) (hu.up sa))).use fun r Hb sb hr=>?_
 obtain⟨_,y,rfl,hy⟩:=hr
 have hl:=mul_len (n:=m) hm
 generalize MulMF m m=A at hy hl ⊢
 conv=>whnf
 refine if_intro (fun he=>?_) (fun he=>?_)
 ·rw[if_pos (show A.2 ≠ 0 by simpa using he)]
  conv=>whnf
  rfl
 rw[if_neg (show ¬ A.2 ≠ 0 by simpa using he)]
 conv=>whnf
 refine (c60 A.1 hl _ _ hy).val fun Hc sc=>?_
 conv=>whnf
 rfl
theorem e28 (m : Mx) (hm:m.length < 1000000) (H:PH) (u:Value) (hu:MatH H u m):Cl Tryz.prog 28 [u] H emp fun r _ _=>r=ne (purityM m):=by
 refine Cl_of (pol:=polL) Γok Tryz.func28 (by kernel_rfl) rfl ?_
 conv=>whnf
 intro b4
 conv=>whnf
 unfold purityM
 refine (e49 m _ _ hu).val fun Ha sa=>?_
 conv=>whnf
 refine if_intro (fun he=>?_) (fun he=>?_)
 ·rw[if_pos (show denErr m ≠ 0 by simpa using he)]
  conv=>whnf
  rfl
 rw[if_neg (show ¬ denErr m ≠ 0 by simpa using he)]
 conv=>whnf
 have hc:=c36 m m Ha _ _ (hu.up sa) (hu.up sa)
 rw[← MulM_eq] at hc
 refine hc.use fun r Hb sb hr=>?_
 obtain⟨_,y,rfl,hy⟩:=hr
 have hl:=mul_len (n:=m) hm
 generalize MulMF m m=A at hy hl ⊢
 conv=>whnf
 refine if_intro (fun he=>?_) (fun he=>?_)
 ·rw[if_pos (show A.2 ≠ 0 by simpa using he)]
  conv=>whnf
  rfl
 rw[if_neg (show ¬ A.2 ≠ 0 by simpa using he)]
 conv=>whnf
 refine (c58 A.1 hl _ _ hy).val fun Hc sc=>?_
 conv=>whnf
 rfl
theorem with_bound : ∀ n:Nat,n < 5→∀ w:Nat,w < n→∀ i:Nat,i < 2 ^ n / 2→withB i w 0 < 2 ^ n∧withB i w 1 < 2 ^ n:=by decide +kernel
def withI (k w v : Int):Int:=wr (wr (andI k (wr (shlI 1 w - 1))+shlI v w)+wr (wr (k - andI k (wr (shlI 1 w - 1)))*2))
theorem with_int : ∀ k:Nat,k < 8→∀ w:Nat,w < 4→withI k w 0=(withB k w 0:Nat)∧withI k w 1=(withB k w 1:Nat):=by decide +kernel
theorem with_val {k w : Nat} {v:Int} (hk:k < 8) (hw:w < 4) (hv:v=0∨v=1):withI k w v=(withB k w v.toNat:Nat):=by
 rcases hv with rfl | rfl
 ·exact (with_int k hk w hw).1
 ·exact (with_int k hk w hw).2
theorem e81 (k w : Nat) (v:Int) (hk:k < 8) (hw:w < 4) (hv:v=0∨v=1) (H:PH):Cl Tryz.prog 81 [.int .i64 k,.int .i64 w,.int .i64 v] H emp fun r _ _=>r=.int .i64 (withB k w v.toNat):=by
 refine Cl_of (pol:=polL) Γok Tryz.func81 (by kernel_rfl) rfl ?_
 conv=>whnf
 exact congrArg (Value.int .i64) (with_val hk hw hv)
theorem half_int {N : Nat} (h:N≤16):IntKind.i64.wrap ((N:Int).tdiv 2)=((N / 2:Nat):Int):=by
 have e:(N:Int).tdiv 2=((N / 2:Nat):Int):=by
  rw[Int.tdiv_eq_ediv_of_nonneg (by omega)]
  omega
 rw[e,wrap_id (by omega) (by omega)]
def wideI : Nat→Int→Int→Int
 | 0,k,v=>orI (shlI k 1) v
 | j+1,k,v=>orI (shlI (wideI j (shrI k 1) v) 1) (andI k 1)
theorem wide_int : ∀ k:Nat,k < 8→∀ w:Nat,w < 4→wideI w k 0=(withB k w 0:Nat)∧wideI w k 1=(withB k w 1:Nat):=by decide +kernel
theorem e88 (w : Int) (hw:0≤w∧w < 100) (v:Int) (bw bf:Nat) (t t':TypeId):∀ (j:Nat) (k at_:Int),0≤at_→at_+j=w→∀ H:PH,H bw=some (.cells ⟨[.int .i64 w]⟩ t (0,0))→H bf=some (.cells ⟨[.func (.func 88) #[] #[.pointer (some ⟨bw,0,none⟩),.pointer (some ⟨bf,0,none⟩)]]⟩ t' (0,0)) →
 Cl Tryz.prog 88 [.int .i64 k,.int .i64 at_,.int .i64 v,.pointer (some ⟨bw,0,none⟩),.pointer (some ⟨bf,0,none⟩)] H emp fun r _ _=>r=.int .i64 (wideI j k v)
 | 0,k,at_,h0,hj,H,hbw,hbf=>by
  have e:at_=w:=by omega
  subst e
  refine Cl_of (pol:=polL) Γok Tryz.func88 (by kernel_rfl) rfl ?_
  conv=>whnf
  refine⟨_,Rd.whole hbw,?_⟩
  conv=>whnf
  refine if_intro (fun h=>?_) (fun h=>?_)
  ·conv=>whnf
   rfl
  ·simp at h
 | j+1,k,at_,h0,hj,H,hbw,hbf=>by
  refine Cl_of (pol:=polL) Γok Tryz.func88 (by kernel_rfl) rfl ?_
  conv=>whnf
  refine⟨_,Rd.whole hbw,?_⟩
  conv=>whnf
  refine if_intro (fun h=>?_) (fun h=>?_)
  ·have h:at_=w:=by simpa using h
   omega
  conv=>whnf
  refine⟨_,Rd.whole hbf,?_⟩
  conv=>whnf
  rw[wrap_id (n:=at_+1) (by omega) (by omega)]
  refine (e88 w hw v bw bf t t' j (shrI k 1) (at_+1) (by omega) (by omega) H hbw hbf).val fun Ha sa=>?_
  conv=>whnf
  rfl
theorem out_add {m : Mx} {w i k:Nat}:ne (AddR (entry m (withB i w 0) (withB k w 0)) (entry m (withB i w 1) (withB k w 1)))=ne (outAt m w i k):=by
 unfold outAt
 rw[Add_eq]
theorem MatH.el {H : PH} {base:Option Addr} {n cap:Nat} {m:Mx} (h:MatH H (.slice base n cap) m) {i k:Nat} (hi:i < m.length) (hk:k < m[i].length) :
 ∃ b off b' off' cap',base=some ⟨b,off,none⟩∧(∀ H' O,Sub H H'→Rd H' O ⟨b,off+i*1,none⟩ 1 [.slice (some ⟨b',off',none⟩) m[i].length cap'])∧∀ H' O,Sub H H'→Rd H' O ⟨b',off'+k*5,none⟩ 5 (cellsOf (entry m i k)):=by
 obtain⟨b,off,b',off',cap',h1,h2,h3⟩:=MatH.cell h hi hk
 refine⟨b,off,b',off',cap',h1,h2,fun H' O hs=>?_⟩
 rw[entry_get hi hk]
 exact h3 H' O hs
set_option maxHeartbeats 4000000 in
theorem e26 (m : Mx) (w:Int) (H:PH) (u:Value) (hu:MatH H u m):Cl Tryz.prog 26 [u,.int .i64 w] H emp fun r H' _=>OutH H' r (outM m w):=by
 obtain⟨base,cap,rfl⟩:=MatH.sl hu
 refine Cl_of (pol:=(fun | 70=>.imm | _=>.loc)) Γok Tryz.func26 (by kernel_rfl) rfl ?_
 conv=>whnf
 refine (e78 m w _ _ hu).val fun H1 s1=>?_
 conv=>whnf
 refine if_intro (fun he=>?_) (fun he=>?_)
 ·rw[show outM m w=([],wiredErr m w) from if_pos (show wiredErr m w ≠ 0 by simpa using he)]
  conv=>whnf
  exact OutH.bad
 have h0:wiredErr m w=0:=by simpa using he
 obtain⟨n,wn,hd,rfl,hwn⟩:=wired_ok h0
 have hN:=pow_le16 hd.le
 have hle:=hd.le
 have hlen:=hd.len
 have hrow:∀ r∈m,r.length=2 ^ n:=fun r hr=>by rw[← hd.wid];exact hd.right.row r hr
 rw[show outM m wn=resM 0 (outAt m wn) (m.length / 2) (m.length / 2) by unfold outM;rw[if_neg (by rw[h0];simp)];rfl]
 replace hu:=hu.up s1
 obtain⟨ib,io,rfl⟩:∃ b off,base=some ⟨b,off,none⟩:=by
  obtain⟨b,off,_,_,e,_⟩:=MatH.at hu hd.right.pos
  exact⟨b,off,e⟩
 have hbd:∀ i,i < m.length / 2→withB i wn 0 < m.length∧withB i wn 1 < m.length:=fun i hi=>by
  have:=with_bound n (by omega) wn hwn i (by rw[← hlen];exact hi)
  rw[hlen]
  exact this
 have hel:∀ (H':PH),Sub H1 H'→∀ i k:Nat,i < m.length→k < m.length→∃ b' off' cap',(∀ H2 O,Sub H' H2→Rd H2 O ⟨ib,io+i*1,none⟩ 1 [.slice (some ⟨b',off',none⟩) m.length cap'])∧∀ H2 O,Sub H' H2→Rd H2 O ⟨b',off'+k*5,none⟩ 5 (cellsOf (entry m i k)):=fun H' hs i k hi hk=>by
  have hr:=hrow _ (List.getElem_mem hi)
  obtain⟨b,off,b',off',cap',e1,e2,e3⟩:=MatH.el hu hi (k:=k) (by rw[hr,← hlen];exact hk)
  cases e1
  rw[hr,← hlen] at e2
  exact⟨b',off',cap',fun H2 O h=>e2 H2 O (hs.trans h),fun H2 O h=>e3 H2 O (hs.trans h)⟩
 generalize hF:outAt m wn=F
 conv=>whnf
 rw[half_int (by omega)]
 refine dec_intro (Int.le_refl _) ?_
 conv=>whnf
 refine dec_intro (by omega) ?_
 conv=>whnf
 refine dec_intro (by omega) ?_
 conv=>whnf
 intro b0 hb0 _
 have hh8:m.length / 2≤8:=by omega
 have hA:(0:Int)=0:=rfl
 generalize m.length / 2=hh at hbd hh8 ⊢
 conv=>whnf
 refine W_repart ?_
 refine W_loopX (pol:=(fun | 70=>.imm | _=>.loc)) Γok (Nat × PH × List Value × PH) (fun i=>i.1≤hh∧Sub H1 i.2.1∧firstErr (errsE F hh hh)=firstErr ((errsE F hh hh).drop (i.1*hh))∧GridO i.2.1 i.2.2.2 b0 hh i.2.2.1 (gridM F i.1 hh)) (fun i=>hh - i.1)
  (fun e i=>e=.exit 0∧Sub H1 i.2.1∧firstErr (errsE F hh hh)=0∧GridO i.2.1 i.2.2.2 b0 hh i.2.2.1 (gridM F hh hh)) (fun i=>[(8,.v (.int .i64 i.1))]) (fun _=>[]) (fun i=>i.2.1) (fun i=>i.2.2.2) ⟨(0,H1,[],ins emp b0 (.cells ⟨(List.replicate hh [Value.slice none 0 0]).flatten⟩ 22 (0,0))),⟨by simp,Sub.refl _,by simp,GridO.start b0 hh emp⟩,rfl,rfl,?_⟩ ?_ ?_
 ·conv=>whnf
  repeat (refine⟨rfl,?_⟩;conv=>whnf)
  exact trivial
 ·rintro ⟨i,H',us,O'⟩ ⟨h1,h2,h3,h4⟩
  dsimp only at h1 h2 h3 h4
  conv=>whnf
  refine if_intro (fun h=>?_) (fun h=>?_)
  ·have hi:i < hh:=by simpa using h
   have hus:us.length=i:=by rw[h4.rows.1];simp[gridM]
   conv=>whnf
   refine W_repart ?_
   refine W_loopX (pol:=(fun | 70=>.imm | _=>.loc)) Γok (Nat × PH × Value × PH) (fun k=>k.1≤hh∧Sub H' k.2.1∧firstErr (errsE F hh hh)=firstErr ((errsE F hh hh).drop (i*hh+k.1))∧GridC k.2.1 k.2.2.2 b0 hh us (gridM F i hh) k.2.2.1 (gridRow F i k.1)) (fun k=>hh - k.1)
    (fun e k=>e=.exit 2∧Sub H' k.2.1∧firstErr (errsE F hh hh)=firstErr ((errsE F hh hh).drop ((i+1)*hh))∧GridC k.2.1 k.2.2.2 b0 hh us (gridM F i hh) k.2.2.1 (gridRow F i hh)) (fun k=>[(9,.v (.int .i64 k.1))]) (fun _=>[]) (fun k=>k.2.1) (fun k=>k.2.2.2) ⟨(0,H',.slice none 0 0,O'),⟨by simp,Sub.refl _,h3,h4.next (by omega)⟩,rfl,rfl,?_⟩ ?_ ?_
   ·conv=>whnf
    repeat (refine⟨rfl,?_⟩;conv=>whnf)
    exact trivial
   ·rintro ⟨k,H3,cur,O3⟩ ⟨k1,k2,k3,k4⟩
    dsimp only at k1 k2 k3 k4
    conv=>whnf
    refine if_intro (fun h=>?_) (fun h=>?_)
    ·have hk:k < hh:=by
      have:(k:Int) < ((hh:Nat):Int):=by simpa using h
      omega
     obtain⟨bi,bi'⟩:=hbd i hi
     obtain⟨bk,bk'⟩:=hbd k hk
     obtain⟨r0,q0,p0,hr0,hx0⟩:=hel H3 (h2.trans k2) _ _ bi bk
     obtain⟨r1,q1_,p1,hr1,hx1⟩:=hel H3 (h2.trans k2) _ _ bi' bk'
     conv=>whnf
     refine W_draw (pol:=(fun | 70=>.imm | _=>.loc)) Γok mixes [(0,.pend),(1,.pendO),(2,.pendO),(6,.pend),(7,.pend),(11,.pend),(12,.pend),(13,.pend),(17,.pend),(18,.pend),(3,.lock),(4,.pend),(5,.pend),(8,.lock),(9,.pend),(10,.pend),(14,.lock),(15,.pend),(16,.pend),(19,.lock),(20,.pendO),(21,.pendO),(22,.lock),(23,.pendO),(24,.pendO),(25,.pendH),(26,.late),(27,.lock),(28,.pendO)] 74 (by kernel_rfl) rfl ?_
     conv=>whnf
     refine (e81 i wn 0 (by omega) (by omega) (.inl rfl) _).val fun Ha sa=>?_
     conv=>whnf
     refine dec_intro (Int.ofNat_lt.2 bi) ?_
     conv=>whnf
     refine⟨_,hr0 _ _ sa,?_⟩
     conv=>whnf
     refine (e81 k wn 0 (by omega) (by omega) (.inl rfl) _).val fun Hb sb=>?_
     conv=>whnf
     refine dec_intro (Int.ofNat_lt.2 bk) ?_
     conv=>whnf
     refine⟨_,hx0 _ _ (sa.trans sb),?_⟩
     conv=>whnf
     refine (e81 i wn 1 (by omega) (by omega) (.inr rfl) _).val fun Hc sc=>?_
     conv=>whnf
     refine dec_intro (Int.ofNat_lt.2 bi') ?_
     conv=>whnf
     refine⟨_,hr1 _ _ (sa.trans (sb.trans sc)),?_⟩
     conv=>whnf
     refine (e81 k wn 1 (by omega) (by omega) (.inr rfl) _).val fun Hd sd=>?_
     conv=>whnf
     refine dec_intro (Int.ofNat_lt.2 bk') ?_
     conv=>whnf
     refine⟨_,hx1 _ _ (sa.trans (sb.trans (sc.trans sd))),?_⟩
     conv=>whnf
     refine (c105 (entry m (withB i wn 0) (withB k wn 0)) (entry m (withB i wn 1) (withB k wn 1)) _).val fun H4 s4'=>?_
     have s4:=sa.trans (sb.trans (sc.trans (sd.trans s4')))
     rw[out_add,hF]
     conv=>whnf
     intro bx
     conv=>whnf
     refine if_intro (fun he=>?_) (fun he=>?_)
     ·conv=>whnf
      have he:(F i k).2 ≠ 0:=by simpa using he
      refine .inl (.inl ?_)
      conv=>whnf
      refine .inl (.inl ?_)
      conv=>whnf
      rw[resM_err hA (x:=(F i k).2) (by rw[k3,errsE_at hi hk,if_neg he]) he]
      exact OutH.bad
     have he:(F i k).2=0:=by simpa using he
     replace k4:=k4.up s4
     conv=>whnf
     refine W_draw (pol:=(fun | 70=>.imm | _=>.loc)) Γok mixes [(0,.pendH),(1,.pendH),(2,.pendO),(3,.pendO),(4,.pendO),(5,.pendO),(6,.pendO),(7,.lock),(8,.lock),(9,.pendO),(10,.lock)] 74 (by kernel_rfl) rfl ?_
     conv=>whnf
     refine dec_intro (by omega) ?_
     conv=>whnf
     refine⟨_,k4.rd hus.symm,?_⟩
     conv=>whnf
     intro b5 hb5 hO5
     conv=>whnf
     refine append_one' (xs:=(gridRow F i k).map cellsOf) (y:=cellsOf (F i k).1) k4.row rfl rfl (cellsOf_one _) ⟨_,_,_,rfl,rfl,Rd.whole (ins_same _ _ _)⟩ ?_ fun v2 O4 hO4 hkeep=>?_
     ·simp[gridRow]
      omega
     obtain⟨vb,vn,vc,rfl⟩:=OwnS.sl hO4
     conv=>whnf
     refine dec_intro (by omega) ?_
     conv=>whnf
     obtain⟨cs,q1,q2,q3⟩:=k4.step (l':=gridRow F i (k+1)) hus.symm (by rw[gridRow_succ,NumO,List.map_append];exact hO4) hkeep
     refine⟨cs,_,q1,q2,?_⟩
     conv=>whnf
     have s5:=sub_ins H4 (.cells ⟨cellsOf (F i k).1⟩ 25 (0,0)) hb5
     refine⟨(k+1,ins H4 b5 (.cells ⟨cellsOf (F i k).1⟩ 25 (0,0)),.slice vb vn vc,_),⟨hk,k2.trans (s4.trans s5),?_,q3.up s5⟩,by dsimp only;omega,?_⟩
     ·rw[k3,errsE_at hi hk,if_pos he]
     ·conv=>whnf
      refine⟨rfl,rfl,?_⟩
      conv=>whnf
      repeat (refine⟨rfl,?_⟩;conv=>whnf)
      refine⟨by show En.v (.int .i64 (IntKind.i64.wrap (k+1)))=_;rw[wrap_id (by omega) (by omega)]<;>rfl,?_⟩
      conv=>whnf
      repeat (refine⟨rfl,?_⟩;conv=>whnf)
      exact trivial
    ·have hk:hh=k:=by
      have:¬ (k:Int) < ((hh:Nat):Int):=by simpa using h
      omega
     conv=>whnf
     refine .inr ⟨(k,H3,cur,O3),⟨rfl,k2,?_,?_⟩,?_⟩
     ·rw[k3,← hk,Nat.succ_mul]
     ·rw[← hk] at k4
      rw[← hk]
      exact k4
     ·conv=>whnf
      refine⟨rfl,rfl,?_⟩
      conv=>whnf
      repeat (refine⟨rfl,?_⟩;conv=>whnf)
      exact trivial
   ·rintro e ⟨k,H3,cur,O3⟩ ⟨rfl,k2,k3,k4⟩
    dsimp only at k2 k3 k4
    refine .inr fun hd=>?_
    obtain⟨H4,O4,rp,g4⟩:=k4.done hd
    refine⟨H4,O4,rp,?_⟩
    conv=>whnf
    refine⟨(i+1,H4,us++[cur],O4),⟨hi,h2.trans (k2.trans rp.sub),k3,?_⟩,by dsimp only;omega,?_⟩
    ·rw[gridM_succ];exact g4
    ·conv=>whnf
     refine⟨rfl,rfl,?_⟩
     conv=>whnf
     repeat (refine⟨rfl,?_⟩;conv=>whnf)
     refine⟨by show En.v (.int .i64 (IntKind.i64.wrap (i+1)))=_;rw[wrap_id (by omega) (by omega)]<;>rfl,?_⟩
     conv=>whnf
     repeat (refine⟨rfl,?_⟩;conv=>whnf)
     exact trivial
  ·have hi:hh=i:=by
    have:¬ (i:Int) < ((hh:Nat):Int):=by simpa using h
    omega
   conv=>whnf
   refine .inr ⟨(i,H',us,O'),⟨rfl,h2,?_,?_⟩,?_⟩
   ·rw[h3,← hi,errsE_end]
   ·rw[← hi] at h4
    rw[← hi]
    exact h4
   ·conv=>whnf
    refine⟨rfl,rfl,?_⟩
    conv=>whnf
    repeat (refine⟨rfl,?_⟩;conv=>whnf)
    exact trivial
 ·rintro e ⟨i,H',us,O'⟩ ⟨rfl,h2,h3,h4⟩
  dsimp only at h2 h3 h4
  refine .inr fun hd=>?_
  obtain⟨H4,O4,rp,g4⟩:=h4.mat hd (by rw[h4.rows.1];simp[gridM])
  refine⟨H4,O4,rp,?_⟩
  conv=>whnf
  rw[resM_ok hA h3]
  exact⟨_,rfl,g4⟩
theorem e88w {k wn : Nat} {v:Int} {bw bf:Nat} {t t':TypeId} (hk:k < 8) (hw:wn < 4) (hv:v=0∨v=1) (H:PH) (hbw:H bw=some (.cells ⟨[.int .i64 wn]⟩ t (0,0))) (hbf:H bf=some (.cells ⟨[.func (.func 88) #[] #[.pointer (some ⟨bw,0,none⟩),.pointer (some ⟨bf,0,none⟩)]]⟩ t' (0,0))) :
 Cl Tryz.prog 88 [.int .i64 k,.int .i64 0,.int .i64 v,.pointer (some ⟨bw,0,none⟩),.pointer (some ⟨bf,0,none⟩)] H emp fun r _ _=>r=.int .i64 (withB k wn v.toNat):=by
 have e:wideI wn k v=(withB k wn v.toNat:Nat):=by
  rcases hv with rfl | rfl
  ·exact (wide_int k hk wn hw).1
  ·exact (wide_int k hk wn hw).2
 rw[← e]
 exact e88 wn (by omega) v bw bf t t' wn k 0 (by omega) (by omega) H hbw hbf
def polOut : Tmp→Pol:=fun | 3=>.imm | 7=>.own | _=>.loc
set_option maxHeartbeats 4000000 in
theorem e33 (m : Mx) (w:Int) (hm:m.length < 1000000) (H:PH) (u:Value) (hu:MatH H u m):Cl Tryz.prog 33 [u,.int .i64 w] H emp fun r _ M'=>OutO M' r (outM m w):=by
 obtain⟨base,cap,rfl⟩:=MatH.sl hu
 refine Cl_of (pol:=polOut) Γok Tryz.func33 (by kernel_rfl) rfl ?_
 conv=>whnf
 intro b2
 conv=>whnf
 intro bw hbw hOw
 conv=>whnf
 have sw:=sub_ins H (.cells ⟨[.int .i64 w]⟩ 3 (0,0)) hbw
 have hbw':=ins_same H bw (.cells ⟨[.int .i64 w]⟩ 3 (0,0))
 replace hu:=hu.up sw
 intro b4
 conv=>whnf
 intro b5
 conv=>whnf
 refine (e84 m w hm _ _ hu).val fun H1 s1=>?_
 conv=>whnf
 refine if_intro (fun he=>?_) (fun he=>?_)
 ·rw[show outM m w=([],wiredErr m w) from if_pos (show wiredErr m w ≠ 0 by simpa using he)]
  conv=>whnf
  exact OutO.bad
 have h0:wiredErr m w=0:=by simpa using he
 obtain⟨n,wn,hd,rfl,hwn⟩:=wired_ok h0
 have hN:=pow_le16 hd.le
 have hle:=hd.le
 have hlen:=hd.len
 have hrow:∀ r∈m,r.length=2 ^ n:=fun r hr=>by rw[← hd.wid];exact hd.right.row r hr
 rw[show outM m wn=resM 0 (outAt m wn) (m.length / 2) (m.length / 2) by unfold outM;rw[if_neg (by rw[h0];simp)];rfl]
 replace hu:=hu.up s1
 replace hbw':=s1 _ _ hbw'
 obtain⟨ib,io,rfl⟩:∃ b off,base=some ⟨b,off,none⟩:=by
  obtain⟨b,off,_,_,e,_⟩:=MatH.at hu hd.right.pos
  exact⟨b,off,e⟩
 have hbd:∀ i,i < m.length / 2→withB i wn 0 < m.length∧withB i wn 1 < m.length:=fun i hi=>by
  have:=with_bound n (by omega) wn hwn i (by rw[← hlen];exact hi)
  rw[hlen]
  exact this
 have hel:∀ (H':PH),Sub H1 H'→∀ i k:Nat,i < m.length→k < m.length→∃ b' off' cap',(∀ H2 O,Sub H' H2→Rd H2 O ⟨ib,io+i*1,none⟩ 1 [.slice (some ⟨b',off',none⟩) m.length cap'])∧∀ H2 O,Sub H' H2→Rd H2 O ⟨b',off'+k*5,none⟩ 5 (cellsOf (entry m i k)):=fun H' hs i k hi hk=>by
  have hr:=hrow _ (List.getElem_mem hi)
  obtain⟨b,off,b',off',cap',e1,e2,e3⟩:=MatH.el hu hi (k:=k) (by rw[hr,← hlen];exact hk)
  cases e1
  rw[hr,← hlen] at e2
  exact⟨b',off',cap',fun H2 O h=>e2 H2 O (hs.trans h),fun H2 O h=>e3 H2 O (hs.trans h)⟩
 generalize hF:outAt m wn=F
 conv=>whnf
 intro bf hbf hOf
 conv=>whnf
 refine⟨_,_,ins_same _ _ _,Nat.le_refl _,?_⟩
 conv=>whnf
 rw[half_int (by omega)]
 have hh8:m.length / 2≤8:=by omega
 generalize m.length / 2=hh at hbd hh8 ⊢
 have sf:=sub_ins H1 (.cells ⟨[.func (.func 88) #[] #[.pointer (some ⟨bw,0,none⟩),.pointer (some ⟨bf,0,none⟩)]]⟩ 95 (0,0)) hbf
 have hbf':=ins_same H1 bf (.cells ⟨[.func (.func 88) #[] #[.pointer (some ⟨bw,0,none⟩),.pointer (some ⟨bf,0,none⟩)]]⟩ 95 (0,0))
 have hc:=e66 hh (by omega) (ins H1 bf (.cells ⟨[.func (.func 88) #[] #[.pointer (some ⟨bw,0,none⟩),.pointer (some ⟨bf,0,none⟩)]]⟩ 95 (0,0)))
 refine Cl.pub (ins_same _ _ _) (fun _=>?_) hc.ent
 rw[show ∀ (x y:Obj),del (ins (ins emp bf x) bf y) bf=emp from fun x y=>by funext n;unfold del ins emp;by_cases e:n=bf<;>simp[e]]
 refine hc.mono fun r H2 M2 s2 hr=>?_
 obtain⟨_,hr⟩:=hr
 obtain⟨bs,b0,rfl,hrows⟩:=hr.ownB
 conv=>whnf
 intro b8
 conv=>whnf
 refine (e67 hh (by omega) _).use fun it H3 s3 hit=>?_
 obtain⟨_,hit⟩:=hit
 have s13:Sub H1 H3:=sf.trans (s2.trans s3)
 replace hbw':=s13 _ _ hbw'
 replace hbf':=(s2.trans s3) _ _ hbf'
 conv=>whnf
 refine W_range (pol:=polOut) Γok (placesN 0 (List.replicate hh hh)) hit (PH × Int) (fun n x H'=>x.2=0∧OwnB x.1 bs b0 hh hh (fills F hh hh n)∧firstErr (errsE F hh hh)=firstErr ((errsE F hh hh).drop n)) (fun e x _=>e=.ret∧x.2=firstErr (errsE F hh hh)∧x.2 ≠ 0) (fun x=>[(3,[.int .i64 x.2])]) (fun x=>x.1) (fun _ _ _ _ _ h=>h) (fun _ _ _ _ _ h=>h) ⟨(M2,0),⟨rfl,hrows,by simp⟩,rfl,?_⟩ ?_ ?_ ?_
 ·conv=>whnf
 ·rintro n x hx ⟨O,e⟩ H' hs' ⟨he,hrw,hn'⟩ y o o' hy
  dsimp only at he hrw hy
  subst he
  have hlt:n < hh*hh:=by
   rw[← placesN_uniform_length hh hh]
   exact (List.getElem?_eq_some_iff.1 hx).1
  obtain⟨g1,g2,g3⟩:=placesN_uniform hlt
  rw[g3] at hx
  cases hx
  have hst:=errsE_step (F:=F) hlt
  obtain⟨bi,bi'⟩:=hbd _ g1
  obtain⟨bk,bk'⟩:=hbd _ g2
  obtain⟨r0,q0,p0,hr0,hx0⟩:=hel H' (s13.trans hs') _ _ bi bk
  obtain⟨r1,q1_,p1,hr1,hx1⟩:=hel H' (s13.trans hs') _ _ bi' bk'
  have hbwi:=hs' _ _ hbw'
  have hbfi:=hs' _ _ hbf'
  have hfill:fills F hh hh (n+1)=setM (fills F hh hh n) (n / hh) (n % hh) (F (n / hh) (n % hh)).1:=rfl
  generalize n / hh=i at g1 g3 hst bi bi' hr0 hx0 hr1 hx1 hfill ⊢
  generalize n % hh=k at g2 g3 hst bk bk' hr0 hx0 hr1 hx1 hfill ⊢
  conv=>whnf
  intro b9
  conv=>whnf
  refine⟨rfl,?_⟩
  conv=>whnf
  refine⟨O,rfl,?_⟩
  conv=>whnf
  refine W_draw (pol:=polOut) Γok mixes [(0,.pend),(1,.pendO),(2,.pendO),(3,.pendO),(7,.pend),(8,.pend),(9,.pend),(13,.pend),(14,.pend),(15,.pend),(16,.pend),(20,.pend),(21,.pend),(22,.pend),(4,.lock),(5,.pend),(6,.pend),(10,.lock),(11,.pend),(12,.pend),(17,.lock),(18,.pend),(19,.pend),(23,.lock),(24,.pendO),(25,.pendO),(26,.lock),(27,.pendO),(28,.pendO),(29,.pendH),(30,.late),(31,.lock),(32,.pendO)] 70 (by kernel_rfl) rfl ?_
  conv=>whnf
  refine⟨_,Rd.whole hbfi,?_⟩
  conv=>whnf
  refine⟨_,Rd.whole hbfi,?_⟩
  conv=>whnf
  refine⟨_,Rd.whole hbfi,?_⟩
  conv=>whnf
  refine⟨_,Rd.whole hbfi,?_⟩
  conv=>whnf
  refine (e88w (by omega) (by omega) (.inl rfl) _ hbwi hbfi).val fun Ha sa=>?_
  conv=>whnf
  refine dec_intro (Int.ofNat_lt.2 bi) ?_
  conv=>whnf
  refine⟨_,hr0 _ _ sa,?_⟩
  conv=>whnf
  refine (e88w (by omega) (by omega) (.inl rfl) _ (sa _ _ hbwi) (sa _ _ hbfi)).val fun Hb sb=>?_
  conv=>whnf
  refine dec_intro (Int.ofNat_lt.2 bk) ?_
  conv=>whnf
  refine⟨_,hx0 _ _ (sa.trans sb),?_⟩
  conv=>whnf
  have sab:=sa.trans sb
  refine (e88w (by omega) (by omega) (.inr rfl) _ (sab _ _ hbwi) (sab _ _ hbfi)).val fun Hc sc=>?_
  conv=>whnf
  refine dec_intro (Int.ofNat_lt.2 bi') ?_
  conv=>whnf
  have sabc:=sab.trans sc
  refine⟨_,hr1 _ _ sabc,?_⟩
  conv=>whnf
  refine (e88w (by omega) (by omega) (.inr rfl) _ (sabc _ _ hbwi) (sabc _ _ hbfi)).val fun Hd sd=>?_
  conv=>whnf
  refine dec_intro (Int.ofNat_lt.2 bk') ?_
  conv=>whnf
  have sabcd:=sabc.trans sd
  refine⟨_,hx1 _ _ sabcd,?_⟩
  conv=>whnf
  refine (c110 (entry m (withB i wn 0) (withB k wn 0)) (entry m (withB i wn 1) (withB k wn 1)) _).val fun He se=>?_
  rw[Add_eq,out_add,hF]
  conv=>whnf
  intro b10
  conv=>whnf
  refine if_intro (fun he=>?_) (fun he=>?_)
  ·conv=>whnf
   have hne:¬ (F i k).2=0:=by simpa using he
   rw[if_neg hne] at hst
   refine⟨(O,(F i k).2),.inr ⟨⟨rfl,(hn'.trans hst).symm,hne⟩,rfl⟩,hy,rfl,?_⟩
   conv=>whnf
   repeat (refine⟨rfl,?_⟩;conv=>whnf)
   exact trivial
  have h0':(F i k).2=0:=by simpa using he
  rw[if_pos h0'] at hst
  have hy0:b0 ≠ y:=fun e=>by rw[← e] at hy;rw[hrw.list] at hy;cases hy
  obtain⟨br,row,hb1,hr1',hrl,hne0,hOb,hRd⟩:=hrw.rowI (O:=ins O y o') (ins_ne _ _ hy0) g1 He
  have hbl:br ≠ y:=fun e=>by rw[e,hy] at hOb;cases hOb
  conv=>whnf
  refine W_draw (pol:=polOut) Γok mixes [(0,.pendO),(1,.pendO),(2,.pendO),(3,.pendO),(4,.pendO),(5,.pendO),(6,.pendO),(7,.pendO),(8,.pendO),(9,.lock)] 70 (by kernel_rfl) rfl ?_
  conv=>whnf
  refine dec_intro (by omega) ?_
  conv=>whnf
  refine⟨_,hRd,?_⟩
  conv=>whnf
  refine dec_intro (by omega) ?_
  conv=>whnf
  refine⟨_,_,(ins_ne _ _ hbl).trans hOb,?_,?_⟩
  ·show _≤(cellsN _).length
   rw[cellsN_length,hrl]
   simp only[Int.toNat_natCast,List.length_cons,List.length_nil]
   omega
  conv=>whnf
  refine⟨(ins O br (.cells ⟨(cellsN row).take (0+k*5)++cellsOf (F i k).1++(cellsN row).drop (0+k*5+5)⟩ 25 (0,0)),0),.inl ⟨rfl,rfl,(by rw[hfill];exact hrw.set hb1 hr1' (by omega) _),hn'.trans hst⟩,?_,?_,?_⟩
  ·dsimp only
   rw[ins_ne _ _ hbl.symm];exact hy
  ·dsimp only
   rw[ins_comm O _ _ hbl]
   rfl
  conv=>whnf
  repeat (refine⟨rfl,?_⟩;conv=>whnf)
  exact trivial
 ·rintro ⟨O,e⟩ H' hs' ⟨he,hrw,hn'⟩
  dsimp only at he hrw
  subst he
  rw[List.drop_of_length_le (by rw[placesN_uniform_length];simp[errsE])] at hn'
  conv=>whnf
  rw[placesN_uniform_length] at hrw
  rw[fills_grid] at hrw
  rw[resM_ok rfl hn']
  exact⟨_,rfl,.inr ⟨hh,hh,by omega,by omega,hrw.ownM⟩⟩
 ·rintro e ⟨O,e'⟩ H' hs' ⟨rfl,he,hne⟩
  dsimp only at he hne
  conv=>whnf
  subst he
  rw[resM_err rfl rfl hne]
  exact⟨_,rfl,.inl ⟨rfl,rfl⟩⟩
theorem e46 (m n : Mx) (H:PH) (u v:Value) (hu:MatH H u m) (hv:MatH H v n):Cl Tryz.prog 46 [u,v] H emp fun r _ _=>r=.tuple #[.bool (sameDM m n).1,.int .i64 (sameDM m n).2]:=by
 refine Cl_of (pol:=polL) Γok Tryz.func46 (by kernel_rfl) rfl ?_
 conv=>whnf
 unfold sameDM
 refine (e49 m _ _ hu).val fun Ha sa=>?_
 conv=>whnf
 refine if_intro (fun he=>?_) (fun he=>?_)
 ·rw[if_pos (show denErr m ≠ 0 by simpa using he)]
  conv=>whnf
 have hm0:denErr m=0:=by simpa using he
 rw[if_neg (show ¬ denErr m ≠ 0 by rw[hm0];simp)]
 conv=>whnf
 refine (e49 n _ _ (hv.up sa)).val fun Hb sb=>?_
 conv=>whnf
 refine if_intro (fun he=>?_) (fun he=>?_)
 ·rw[if_pos (show denErr n ≠ 0 by simpa using he)]
  conv=>whnf
 have hn0:denErr n=0:=by simpa using he
 rw[if_neg (show ¬ denErr n ≠ 0 by rw[hn0];simp)]
 obtain⟨_,d1⟩:=den_of hm0
 obtain⟨_,d2⟩:=den_of hn0
 conv=>whnf
 refine (c96 m n d1.chk d2.chk _ _ _ ((hu.up sa).up sb) ((hv.up sa).up sb)).val fun Hc sc=>?_
 conv=>whnf
theorem e166 (x : Value) (q:Bool) (H:PH) (b:Nat) (f:Value) (t:TypeId) (hb:H b=some (.cells ⟨[f]⟩ t (0,0))) (hf:Does Tryz.prog H f [x] fun r _=>r=.bool q) :
 Cl Tryz.prog 166 [x,.pointer (some ⟨b,0,none⟩)] H emp fun r _ _=>r=.bool (!q):=by
 refine Cl_of (pol:=polL) Γok Tryz.func166 (by kernel_rfl) rfl ?_
 conv=>whnf
 refine⟨_,Rd.whole hb,?_⟩
 conv=>whnf
 refine hf.use fun r H' hs hr=>?_
 subst hr
 conv=>whnf
theorem e110 (vs : List Value) (p:Value→Bool) (H:PH) (v:Value) (fn:Fn) (first cap:Array Value) (hv:SlH H v vs.length vs) (hf:∀ x∈vs,Does Tryz.prog H (.func fn first cap) [x] fun r _=>r=.bool (p x)) (hlen:vs.length < 9223372036854775808) :
 Cl Tryz.prog 110 [v,.func fn first cap] H emp fun r _ _=>r=.bool (vs.all p):=by
 obtain⟨base,cp,rfl,hv'⟩:=id hv
 refine Cl_of (pol:=fun | 3=>.imm | _=>.loc) Γok Tryz.func110 (by kernel_rfl) rfl ?_
 conv=>whnf
 intro b hb hO
 conv=>whnf
 have hs:=sub_ins H (.cells ⟨[.func fn first cap]⟩ 111 (0,0)) hb
 refine (c85 vs (fun x=>!p x) _ _ _ (hv.up hs) (fun x hx=>⟨166,[],[_],rfl,fun H' hs'=>?_⟩) hlen).val fun H' _=>?_
 ·exact e166 x (p x) H' b (.func fn first cap) _ (hs' _ _ (ins_same _ _ _)) ((hf x hx).up (hs.trans hs'))
 ·conv=>whnf
  congr 1
  simp[List.not_any_eq_all_not]
theorem e111 (base ob : Option Addr) (n cap k kc:Nat) (H:PH) (b:Nat) (t:TypeId) (hb:H b=some (.cells ⟨[.slice ob k kc]⟩ t (0,0))) :
 Cl Tryz.prog 111 [.slice base n cap,.pointer (some ⟨b,0,none⟩)] H emp fun r _ _=>r=.bool ((n:Int) == (k:Int)):=by
 refine Cl_of (pol:=polL) Γok Tryz.func111 (by kernel_rfl) rfl ?_
 conv=>whnf
 refine⟨_,Rd.whole hb,?_⟩
 conv=>whnf
theorem Iter_up {H0 H : PH} {f:Value} {xs:List (List Value)} (h:Iter Tryz.prog H0 f xs) (s:Sub H0 H):Iter Tryz.prog H f xs:=by
 obtain⟨g,first,cap,e,h⟩:=h
 exact⟨g,first,cap,e,fun H' hs=>h H' (s.trans hs)⟩
def sameUp (m n : Mx) (t:Nat):Bool:=(List.range t).all (eqAt m n)
theorem sameUp_succ (m n : Mx) (t:Nat):sameUp m n (t+1)=(sameUp m n t && eqAt m n t):=by
 unfold sameUp
 rw[List.range_succ,List.all_append]
 simp
set_option maxHeartbeats 4000000 in
theorem e47 (m n : Mx) (hm:m.length < 1000000) (hn:n.length < 1000000) (H:PH) (u v:Value) (hu:MatH H u m) (hv:MatH H v n):Cl Tryz.prog 47 [u,v] H emp fun r _ _=>r=.tuple #[.bool (sameDM m n).1,.int .i64 (sameDM m n).2]:=by
 obtain⟨ub,uc,rfl⟩:=MatH.sl hu
 obtain⟨vb,vc,rfl⟩:=MatH.sl hv
 refine Cl_of (pol:=(fun | 15=>.imm | 7=>.own | _=>.loc)) Γok Tryz.func47 (by kernel_rfl) rfl ?_
 conv=>whnf
 intro b2
 conv=>whnf
 intro b4
 conv=>whnf
 intro b5
 conv=>whnf
 intro bm hbm hOm
 conv=>whnf
 have sm:=sub_ins H (.cells ⟨[.slice ub m.length uc,.slice vb n.length vc]⟩ 23 (0,0)) hbm
 replace hu:=hu.up sm
 replace hv:=hv.up sm
 refine (e71 [m,n] (by simp) (by simp[hm,hn]) _ _ (mats2 (ins_same _ _ _) hu hv)).val fun H1 s1=>?_
 replace hu:=hu.up s1
 replace hv:=hv.up s1
 rw[errsD2]
 unfold sameDM
 by_cases e1:denErr m ≠ 0
 ·rw[if_pos e1,if_pos e1]
  conv=>whnf
  refine if_intro (fun he=>?_) (fun he=>?_)
  ·conv=>whnf
  ·exact absurd (by simpa using he) e1
 rw[if_neg e1,if_neg e1]
 by_cases e2:denErr n ≠ 0
 ·rw[if_pos e2]
  conv=>whnf
  refine if_intro (fun he=>?_) (fun he=>?_)
  ·conv=>whnf
  ·exact absurd (by simpa using he) e2
 rw[if_neg e2,show denErr n=0 by simpa using e2]
 obtain⟨n1,d1⟩:=den_of (show denErr m=0 by simpa using e1)
 obtain⟨n2,d2⟩:=den_of (show denErr n=0 by simpa using e2)
 have hN1:=pow_le16 d1.le
 have l1:=d1.len
 have l2:=d2.len
 have w1:=d1.wid
 have w2:=d2.wid
 conv=>whnf
 refine if_intro (fun hl=>?_) (fun hl=>?_)
 ·have hl:¬ m.length=n.length:=by
   intro e
   rw[e] at hl
   simp at hl
  rw[show equalR m n=false by unfold equalR alikeF;rw[show ((m.length:Int) == (n.length:Int))=false from beq_eq_false_iff_ne.2 (by omega)];rfl]
  conv=>whnf
 have hl:m.length=n.length:=by
  have:((m.length:Int)=(n.length:Int)):=by simpa using hl
  omega
 have hal:alikeF m n=true:=by unfold alikeF;rw[hl,w1,w2,← l1,← l2,hl];simp
 have heq:equalR m n=sameUp m n (m.length*m.length):=by
  unfold equalR sameUp
  rw[hal,w1,← l1,Bool.true_and]
 rw[heq]
 obtain⟨vs,q1,q2,q3⟩:=id hv
 obtain⟨_,_,qv,q2⟩:=q2
 cases qv
 obtain⟨nb,no,nc,nt,nfr,rfl,qh,qc⟩:∃ b off c t fr,vb=some ⟨b,off,none⟩∧H1 b=some (.cells c t fr)∧(c.toList.drop off).take vs.length=vs:=by
  rcases q2 with⟨_,h⟩ | ⟨b,off,c,t,fr,h⟩
  ·have:=d2.right.pos
   have:vs.length=0:=by rw[h]<;>rfl
   omega
  ·exact⟨b,off,c,t,fr,h⟩
 have hone:∀ x∈vs,x.oneCell'=true:=fun x hx=>by
  obtain⟨i,hi,rfl⟩:=List.mem_iff_getElem.1 hx
  obtain⟨_,_,e,_⟩:=q3 i n[i] _ (List.getElem?_eq_getElem (by omega)) (List.getElem?_eq_getElem hi)
  rw[e]
  rfl
 conv=>whnf
 refine dec_intro (Int.le_refl _) ?_
 conv=>whnf
 refine dec_intro (by omega) ?_
 conv=>whnf
 refine dec_intro (by omega) ?_
 conv=>whnf
 intro b0 hb0 hO0
 conv=>whnf
 intro b7 hb7 hO7
 conv=>whnf
 refine⟨_,_,ins_same _ _ _,Nat.le_refl _,?_⟩
 conv=>whnf
 have h70:b7 ≠ b0:=fun e=>by rw[e,ins_same] at hO7;cases hO7
 refine⟨_,⟨rfl,rfl,_,_,_,.inr (ins_same _ _ _),rfl⟩,?_⟩
 conv=>whnf
 unfold copyK
 refine⟨some ⟨b0,0,none⟩,n.length,n.length,some ⟨nb,no,none⟩,n.length,vc,vs,rfl,rfl,by rw[Nat.min_self,Nat.mul_one];exact q1,hone,(fun h=>by cases h),fun a ha _=>?_,(fun h=>by cases h),fun a ha=>?_⟩
 ·cases ha
  rw[Nat.min_self,Nat.mul_one]
  exact⟨rfl,q1,_,_,_,.inl qh,by rw[← q1];exact qc⟩
 cases ha
 refine⟨b0,0,_,_,rfl,(ins_ne _ _ (Ne.symm h70)).trans ((ins_ne _ _ (Ne.symm h70)).trans (ins_same _ _ _)),?_,?_⟩
 ·rw[Nat.min_self]
  simp
 conv=>whnf
 refine (e67 m.length (by omega) _).use fun it H3 s3 hit=>?_
 obtain⟨_,hit⟩:=hit
 conv=>whnf
 refine W_pre fun hd=>⟨_,_,.all hd,?_⟩
 generalize hOO:(ins (ins (ins (ins emp b0 _) b7 _) b7 _) b0 _:PH)=OO at hd ⊢
 have g0:OO b0=some (.cells ⟨vs⟩ 22 (0,0)):=by
  rw[← hOO,ins_same]
  congr 3
  rw[Nat.min_self]
  simp[← q1]
 have g7:OO b7=some (.cells ⟨[.slice (some ⟨b0,0,none⟩) n.length n.length]⟩ 23 (0,0)):=by
  rw[← hOO,ins_ne _ _ h70,ins_same]
  rfl
 have s4:Sub H3 (un H3 OO):=fun k o h=>by simp[un,h]
 have u7:=un_right hd g7
 have hown:MatH (un H3 OO) (.slice (some ⟨b0,0,none⟩) n.length n.length) n:=⟨vs,q1,⟨_,_,rfl,.inr ⟨b0,0,_,_,_,rfl,un_right hd g0,by simp⟩⟩,fun i r x h1 h2=>NumH.up (q3 i r x h1 h2) (s3.trans s4)⟩
 have hu4:=(hu.up s3).up s4
 generalize un H3 OO=H4 at s4 u7 hown hu4 ⊢
 have hrow1:∀ r∈m,r.length=m.length:=fun r hr=>by rw[l1,← w1];exact d1.right.row r hr
 have hrow2:∀ r∈n,r.length=m.length:=fun r hr=>by rw[l1,← l1,hl,l2,← w2];exact d2.right.row r hr
 refine W_range (pol:=(fun | 15=>.imm | 7=>.own | _=>.loc)) Γok (placesN 0 (List.replicate m.length m.length)) (Iter_up hit s4) Unit (fun t _ _=>sameUp m n t=true) (fun e _ _=>e=.ret∧sameUp m n (m.length*m.length)=false) (fun _=>[]) (fun _=>emp) (fun _ _ _ _ _ h=>h) (fun _ _ _ _ _ h=>h) ⟨(),rfl,rfl,?_⟩ ?_ ?_ ?_
 ·conv=>whnf
 ·rintro t x hx _ H' hs' hsame y o o' hy
  have hlt:t < m.length*m.length:=by
   rw[← placesN_uniform_length m.length m.length]
   exact (List.getElem?_eq_some_iff.1 hx).1
  obtain⟨g1,g2,g3⟩:=placesN_uniform hlt
  rw[g3] at hx
  cases hx
  have hst:=sameUp_succ m n t
  rw[hsame,Bool.true_and] at hst
  obtain⟨ab,ao,ab',ao',ac,ae,ar,ax⟩:=MatH.el (hu4.up hs') g1 (k:=t % m.length) (by rw[hrow1 _ (List.getElem_mem _)];exact g2)
  obtain⟨bb,bo,bb',bo',bc,be,br,bx⟩:=MatH.el (hown.up hs') (i:=t / m.length) (by rw[← hl];exact g1) (k:=t % m.length) (by rw[hrow2 _ (List.getElem_mem _)];exact g2)
  cases be
  subst ae
  have hla:(m[t / m.length]'g1).length=m.length:=hrow1 _ (List.getElem_mem _)
  have hlb:(n[t / m.length]'(by rw[← hl];exact g1)).length=m.length:=hrow2 _ (List.getElem_mem _)
  have c1:=entry_right d1.chk (i:=t / m.length) (k:=t % m.length) g1 (by rw[w1,← l1];exact g2)
  have c2:=entry_right d2.chk (i:=t / m.length) (k:=t % m.length) (by rw[← hl];exact g1) (by rw[w2,← l2,← hl];exact g2)
  have hat:eqAt m n t=eqN (LeastF (entry m (t / m.length) (t % m.length)).1 (entry m (t / m.length) (t % m.length)).2).1 (LeastF (entry n (t / m.length) (t % m.length)).1 (entry n (t / m.length) (t % m.length)).2).1:=by
   rw[LeastF_eq c1,LeastF_eq c2]
   unfold eqAt
   rw[w1,← l1]
  generalize entry m (t / m.length) (t % m.length)=x1 at ax hat
  generalize entry n (t / m.length) (t % m.length)=x2 at bx hat
  have h7:=hs' _ _ u7
  conv=>whnf
  intro b8
  conv=>whnf
  refine⟨rfl,?_⟩
  conv=>whnf
  refine⟨emp,rfl,?_⟩
  conv=>whnf
  refine W_draw (pol:=(fun | 15=>.imm | 7=>.own | _=>.loc)) Γok mixes [(0,.pendO),(1,.pendO),(2,.pendO),(3,.pendO),(4,.pendO),(5,.pendO),(6,.pendO),(7,.pendO),(8,.pendO),(9,.lock),(10,.pendO),(11,.pendO),(12,.pendH),(13,.late),(14,.lock),(15,.pendO)] 69 (by kernel_rfl) rfl ?_
  conv=>whnf
  refine dec_intro (by omega) ?_
  conv=>whnf
  refine⟨_,ar _ _ (Sub.refl _),?_⟩
  conv=>whnf
  refine dec_intro (by omega) ?_
  conv=>whnf
  refine⟨_,ax _ _ (Sub.refl _),?_⟩
  conv=>whnf
  refine (c83 x1.1 x1.2 _).val fun Ha sa=>?_
  conv=>whnf
  intro b9
  conv=>whnf
  refine W_draw (pol:=(fun | 15=>.imm | 7=>.own | _=>.loc)) Γok mixes [(0,.pendO),(1,.pendO),(2,.pendO),(3,.pendO),(4,.pendO),(5,.pendO),(6,.pendO),(7,.pendO),(8,.pendO),(9,.lock),(10,.pendO),(11,.pendO),(12,.pendH),(13,.late),(14,.lock),(15,.pendO)] 69 (by kernel_rfl) rfl ?_
  conv=>whnf
  refine⟨_,Rd.whole (sa _ _ h7),?_⟩
  conv=>whnf
  refine dec_intro (by omega) ?_
  conv=>whnf
  refine⟨_,br _ _ sa,?_⟩
  conv=>whnf
  refine dec_intro (by omega) ?_
  conv=>whnf
  refine⟨_,bx _ _ sa,?_⟩
  conv=>whnf
  refine (c83 x2.1 x2.2 _).val fun Hb sb=>?_
  conv=>whnf
  intro b11
  conv=>whnf
  refine if_intro (fun he=>?_) (fun he=>?_)
  ·have he:eqN (LeastF x1.1 x1.2).1 (LeastF x2.1 x2.2).1=true:=he
   conv=>whnf
   refine⟨(),.inl ⟨rfl,?_⟩,hy,rfl,?_⟩
   ·rw[hst,hat];exact he
   conv=>whnf
   repeat (refine⟨rfl,?_⟩;conv=>whnf)
   exact trivial
  ·have he:eqN (LeastF x1.1 x1.2).1 (LeastF x2.1 x2.2).1=false:=he
   conv=>whnf
   refine⟨(),.inr ⟨⟨rfl,?_⟩,rfl⟩,hy,rfl,?_⟩
   ·have hno:sameUp m n (t+1)=false:=by rw[hst,hat];exact he
    unfold sameUp at hno ⊢
    rw[List.all_eq_false] at hno ⊢
    obtain⟨q,q4,q5⟩:=hno
    exact⟨q,List.mem_range.2 (by have:=List.mem_range.1 q4;omega),q5⟩
   conv=>whnf
   repeat (refine⟨rfl,?_⟩;conv=>whnf)
   exact trivial
 ·rintro _ H' hs' hsame
  rw[placesN_uniform_length] at hsame
  rw[hsame]
  conv=>whnf
  obtain⟨us,p1,p2,p3⟩:=hu4.up hs'
  have hall:us.all (fun _=>true)=true:=by simp
  refine (e110 us (fun _=>true) _ _ _ _ _ (by rw[p1];exact p2) (fun x hx=>?_) (by omega)).val fun Ha sa=>?_
  ·obtain⟨i,hi,rfl⟩:=List.mem_iff_getElem.1 hx
   obtain⟨xb,xc,xe,_⟩:=p3 i m[i] _ (List.getElem?_eq_getElem (by omega)) (List.getElem?_eq_getElem hi)
   rw[xe]
   refine⟨111,[],[_],rfl,fun H2 hs2=>?_⟩
   have:=e111 xb (some ⟨b0,0,none⟩) m[i].length xc n.length n.length H2 b7 _ ((hs'.trans hs2) _ _ u7)
   rw[show ((m[i].length:Int) == (n.length:Int))=true by rw[hrow1 _ (List.getElem_mem _),hl];simp] at this
   exact this
  rw[hall]
  conv=>whnf
 ·rintro e _ H' hs' ⟨rfl,hno⟩
  rw[hno]
  conv=>whnf
end Go.Proofs.YtodmckckapmmoaaGreatDoor
