/- A logic for code of the model, proved sound, and what functions do that the laws on matrices come to; nothing is asked. Part 6. -/
import Derived.Test.YtmhnalikebkhjaaGreatDoorM5

set_option linter.unusedVariables false
set_option linter.unusedSimpArgs false
set_option linter.unnecessarySimpa false

namespace Go.Proofs.YtmhnalikebkhjaaGreatDoor
open Go.Proofs.YtmhnalikebkhjaaGreatDoor.X Go.Proofs.YtmhnalikebkhjaaGreatDoor.X.PH
set_option maxRecDepth 100000
theorem MatH.rowAt {H : PH} {base:Option Addr} {n cap:Nat} {m:Mx} (h:MatH H (.slice base n cap) m) {i:Nat} (hi:i < m.length) (h0:0 < m[i].length) :
    ∃ b off b' off' cap',base=some ⟨b,off,none⟩∧(∀ H' O,Sub H H'→Rd H' O ⟨b,off+i*1,none⟩ 1 [.slice (some ⟨b',off',none⟩) m[i].length cap'])∧∀ k (hk:k < m[i].length) H' O,Sub H H'→Rd H' O ⟨b',off'+k*5,none⟩ 5 (cellsOf m[i][k]):=by
  obtain⟨b,off,base',cap',h1,h2,h3⟩:=MatH.at h hi
  obtain⟨b',off',h4,_⟩:=NumH.at h3 h0
  subst h4
  refine⟨b,off,b',off',cap',h1,h2,fun k hk H' O hs=>?_⟩
  obtain⟨b2,off2,h5,h6⟩:=NumH.at h3 hk
  cases h5
  exact h6 H' O hs
theorem dotP_stay {A : List Pr} (h:(dotP A).2 ≠ 0):∀ B,dotP (A++B)=dotP A:=by
  have key:∀ (B:List Pr) (s:((P4 × Int) × Int) × Bool),s.1.2 ≠ 0→(B.foldl stepP s).1=s.1:=by
    intro B
    induction B with
    | nil=>intro s _;rfl
    | cons p B ih=>
      intro s hs
      have e:stepP s p=s:=by unfold stepP;rw[if_neg hs]
      rw[List.foldl_cons,e]
      exact ih s hs
  intro B
  unfold dotP foldP
  rw[List.foldl_append]
  exact key B _ h
def rowC (v : Vec) (g:Gt) (a c:Nat):List Pr:=rowL (gM g) (gwn g) g.ws.length v a c
def rowX (v : Vec) (g:Gt) (a c:Nat):Pr:=(entry (gM g) (spl (gwn g) g.ws.length a).1 c,vAt v (cmbN (gwn g) c g.ws.length (spl (gwn g) g.ws.length a).2))
theorem rowC_succ (v : Vec) (g:Gt) (a c:Nat):rowC v g a (c+1)=rowC v g a c++if nzB (gM g) (spl (gwn g) g.ws.length a).1 c=true then [rowX v g a c] else []:=by
  unfold rowC rowL colsL
  rw[List.range_succ,List.filter_append,List.map_append]
  congr 1
  by_cases h:nzB (gM g) (spl (gwn g) g.ws.length a).1 c=true
  · simp[h,rowX]
  · simp[h]
theorem rowC_pre (v : Vec) (g:Gt) (a c:Nat):∀ k,∃ B,rowC v g a (c+k)=rowC v g a c++B
  | 0=>⟨[],by simp⟩
  | k+1=>by
    obtain⟨B,hB⟩:=rowC_pre v g a c k
    exact⟨_,by rw[← Nat.add_assoc,rowC_succ,hB,List.append_assoc]⟩
theorem row_bad {v : Vec} {g:Gt} {a c:Nat} (hc:c≤2 ^ g.ws.length) (h:(dotP (rowC v g a c)).2 ≠ 0):rowG v g a=dotP (rowC v g a c):=by
  obtain⟨B,hB⟩:=rowC_pre v g a c (2 ^ g.ws.length - c)
  rw[show c+(2 ^ g.ws.length - c)=2 ^ g.ws.length by omega] at hB
  unfold rowG
  rw[show rowL (gM g) (gwn g) g.ws.length v a (2 ^ g.ws.length)=rowC v g a (2 ^ g.ws.length) from rfl,hB]
  exact dotP_stay h B
theorem step_first {L : List Pr} {p:Pr} (h0:(dotP L).2=0) (hf:L.isEmpty=true):dotP (L++[p])=if (MulR p.1 p.2).2=0 then ((MulR p.1 p.2).1,0) else ((P4.zero,0),(MulR p.1 p.2).2):=by
  rw[dotP_snoc,if_pos h0,hf]
  unfold dotStepR
  by_cases h:(MulR p.1 p.2).2=0
  · simp[h]
  · simp[h]
theorem step_bad {L : List Pr} {p:Pr} (h0:(dotP L).2=0) (h:(MulR p.1 p.2).2 ≠ 0):dotP (L++[p])=((P4.zero,0),(MulR p.1 p.2).2):=by
  rw[dotP_snoc,if_pos h0]
  unfold dotStepR
  simp[h]
theorem step_more {L : List Pr} {p:Pr} (h0:(dotP L).2=0) (hf:L.isEmpty=false) (h:(MulR p.1 p.2).2=0):dotP (L++[p])=if (AddR (dotP L).1 (MulR p.1 p.2).1).2=0 then ((AddR (dotP L).1 (MulR p.1 p.2).1).1,0) else ((P4.zero,0),(AddR (dotP L).1 (MulR p.1 p.2).1).2):=by
  rw[dotP_snoc,if_pos h0,hf]
  unfold dotStepR
  simp[h]
theorem dotP_L : ∀ (L:List Pr),(dotP L).2=0→IsL (dotP L).1:=by
  have key:∀ (L:List Pr) (s:((P4 × Int) × Int) × Bool),(s.1.2=0→IsL s.1.1)→(L.foldl stepP s).1.2=0→IsL (L.foldl stepP s).1.1:=by
    intro L
    induction L with
    | nil=>intro s h h0;exact h h0
    | cons p L ih=>
      intro s h
      rw[List.foldl_cons]
      refine ih _ fun h1=>?_
      unfold stepP at h1 ⊢
      by_cases hs:s.1.2=0
      · rw[if_pos hs] at h1 ⊢
        exact dotStep_L h1
      · rw[if_neg hs] at h1
        exact absurd h1 hs
  exact fun L h=>key L _ (fun _=>zero_L) h
def outX (v : Vec) (g:Gt) (i:Nat) (z:P4 × Int):Vec:=outP v g i++z::zeros (v.length - i - 1)
theorem outP_len (v : Vec) (g:Gt) (i:Nat):(outP v g i).length=i:=by simp[outP]
theorem outX_len (v : Vec) (g:Gt) {i:Nat} (hi:i < v.length) (z:P4 × Int):(outX v g i z).length=v.length:=by
  simp[outX,outP_len,zeros]
  omega
theorem outX_set (v : Vec) (g:Gt) (i:Nat) (z y:P4 × Int):(outX v g i z).set i y=outX v g i y:=by
  unfold outX
  rw[List.set_append_right _ _ (by rw[outP_len];exact Nat.le_refl _),outP_len,Nat.sub_self,List.set_cons_zero]
theorem outX_at (v : Vec) (g:Gt) (i:Nat) (z:P4 × Int) (h:i < (outX v g i z).length):(outX v g i z)[i]=z:=by
  have e:(outX v g i z)[i]?=some z:=by
    unfold outX
    rw[List.getElem?_append_right (by rw[outP_len];exact Nat.le_refl _),outP_len,Nat.sub_self]
    rfl
  rw[List.getElem?_eq_getElem h] at e
  exact Option.some.inj e
theorem outX_zero (v : Vec) (g:Gt) {i:Nat} (hi:i < v.length):outP v g i++zeros (v.length - i)=outX v g i (P4.zero,0):=by
  unfold outX zeros
  rw[show v.length - i=(v.length - i - 1)+1 by omega,List.replicate_succ]
  simp
theorem outX_end (v : Vec) (g:Gt) (i:Nat):outX v g i (rowG v g i).1=outP v g (i+1)++zeros (v.length - (i+1)):=by
  unfold outX
  rw[outP_succ,List.append_assoc,Nat.sub_sub]
  rfl
theorem or_two : ∀ s,s < 64→∀ w,w < 6→orI ((s:Nat):Int) (shlI 1 ((w:Nat):Int))=((s ||| 2 ^ w:Nat):Int):=by decide +kernel
theorem or_zero : ∀ s,s < 64→∀ w,w < 6→orI ((s:Nat):Int) (shlI 0 ((w:Nat):Int))=((s:Nat):Int):=by decide +kernel
theorem cells_at {O : PH} {b:Nat} {l:Vec} {t:TypeId} {fr:Nat × Nat} (h:O b=some (.cells ⟨cellsN l⟩ t fr)) {i:Nat} (hi:i < l.length) (H:PH):Rd H O ⟨b,0+i*5,none⟩ 5 (cellsOf l[i]):=by
  refine⟨rfl,rfl,_,_,_,.inr h,?_⟩
  show ((cellsN l).drop (0+i*5)).take 5=_
  rw[Nat.zero_add]
  have:=flat_at (cs:=l.map cellsOf) (sz:=5) (fun c hc=>by
    obtain⟨y,_,rfl⟩:=List.mem_map.1 hc
    rfl) (i:=i) (by simpa using hi)
  rw[List.getElem_map] at this
  exact this
def AppR (H' O O' : PH) (b:Nat) (r:Value) (x:Vec × Int):Prop:=∃ u ob,r=.tuple #[u,.int .i64 x.2]∧VecA O' u x.1 ob∧(∀ n,ob=some n→O n=none)∧OpsO H' O' b∧∀ n o,O n=some o→n ≠ b→O' n=some o
set_option maxHeartbeats 8000000 in
theorem d78 (v : Vec) (g:Gt) (n:Nat) (hok:GateOK g n) (hv:v.length=2 ^ n) (b:Nat) (H O:PH) (hops:OpsO H O b) (x w:Value) (hx:NumH H x v) (hw:IntsC H w g.ws):Cl Tryz.prog 78 [.map (some b),x,gv g w] H O fun r H' O'=>AppR H' O O' b r (doneG v g):=by
  obtain⟨xb,xc,rfl,_⟩:=id hx
  obtain⟨wb,wc,rfl,hwc,hw⟩:=hw
  obtain⟨w1,w2,w3⟩:=hok.wn
  obtain⟨a1,a2⟩:=hok.ar
  obtain⟨dm1,dm2⟩:=hok.dim
  obtain⟨p1,p2⟩:=pow6 hok.n6
  refine Cl_of (pol:=(fun | 109=>.imm | _=>.loc)) Γok Tryz.func78 (by kernel_rfl) rfl ?_
  conv=>whnf
  intro b5
  conv=>whnf
  refine (d118 g.kind b _ _ hops).mono fun r Ha Oa sa hr=>?_
  obtain⟨hm,hops1,hO1⟩:=hr
  rw[hok.of] at hm
  obtain⟨mb,mc,rfl⟩:=MatH.sl hm
  replace hx:=NumH.up hx sa
  replace hw:=IntsH.up hw sa
  conv=>whnf
  refine dec_intro (Int.le_refl _) ?_
  conv=>whnf
  refine dec_intro (by omega) ?_
  conv=>whnf
  refine dec_intro (by omega) ?_
  conv=>whnf
  intro bw hbw hObw
  rw[show (List.replicate (v.length:Int).toNat _).flatten=cellsN (zeros v.length) from zeros_flat v.length]
  have hbb:b ≠ bw:=fun e=>by
    obtain⟨es,clk,h,_⟩:=hops1
    rw[e,hObw] at h
    cases h
  have hObw0:O bw=none:=(hO1 bw (fun e=>hbb e.symm)).symm.trans hObw
  conv=>whnf
  refine W_loop (pol:=(fun | 109=>.imm | _=>.loc)) Γok (Nat × PH × PH) (fun i=>i.1≤v.length∧Sub Ha i.2.1∧i.2.2 bw=some (.cells ⟨cellsN (outP v g i.1++zeros (v.length - i.1))⟩ 32 (0,0))∧(∀ n,n ≠ bw→i.2.2 n=Oa n)∧∀ a,a < i.1→(rowG v g a).2=0) (fun i=>v.length - i.1) (fun i=>[(32,.v (.int .i64 i.1))]) (fun _=>[]) (fun i=>i.2.1) (fun i=>i.2.2) ⟨(0,Ha,_),⟨by simp,Sub.refl _,ins_same _ _ _,fun n hn=>ins_ne _ _ hn,fun a h=>absurd h (Nat.not_lt_zero _)⟩,rfl,rfl,?_⟩ ?_
  · conv=>whnf
    repeat (refine⟨rfl,?_⟩;conv=>whnf)
    exact trivial
  rintro ⟨i,Hi,Oi⟩ ⟨h1i,hsi,hOi,hOn,hpi⟩
  dsimp only at h1i hsi hOi hOn hpi
  conv=>whnf
  refine if_intro (fun hci=>?_) (fun hci=>?_)
  · have hii:i < v.length:=by
      have:=of_decide_eq_true hci
      omega
    rw[outX_zero v g hii] at hOi
    conv=>whnf
    refine W_loop (pol:=(fun | 109=>.imm | _=>.loc)) Γok (Nat × PH) (fun z=>z.1≤g.ws.length∧Sub Hi z.2) (fun z=>g.ws.length - z.1) (fun z=>[(11,.v (.int .i64 (spl (gwn g) z.1 i).1)),(12,.v (.int .i64 (spl (gwn g) z.1 i).2)),(39,.v (.int .i64 z.1))]) (fun _=>[]) (fun z=>z.2) (fun _=>Oi) ⟨(0,Hi),⟨by simp,Sub.refl _⟩,rfl,rfl,?_⟩ ?_
    · conv=>whnf
      repeat (refine⟨rfl,?_⟩;conv=>whnf)
      exact trivial
    rintro ⟨j,Hj⟩ ⟨h1j,hsj⟩
    dsimp only at h1j hsj
    conv=>whnf
    refine if_intro (fun hcj=>?_) (fun hcj=>?_)
    · have hij:j < g.ws.length:=by
        have:=of_decide_eq_true hcj
        omega
      obtain⟨bb,off,rfl,hrd⟩:=(IntsH.up hw (hsi.trans hsj)).rd hij
      have ew:g.ws[j]=((gwn g j:Nat):Int):=by
        have:=(w2 j hij).2
        rw[List.getD_eq_getElem?_getD,List.getElem?_eq_getElem hij] at this
        exact this
      rw[ew] at hrd
      conv=>whnf
      refine dec_intro (by omega) ?_
      conv=>whnf
      refine⟨_,hrd Oi,?_⟩
      have hsu:=spl_succ (gwn g) w1 j i (by omega) fun a ha=>w3 a j ha hij
      have hsb:=spl_bit (gwn g) w1 (w1 j) j i (by omega) fun a ha=>w3 a j ha hij
      obtain⟨l1,l2⟩:=spl_lt (gwn g) w1 j i (by omega)
      have e1:orI ((spl (gwn g) j i).1:Int) (shlI (andI (shrI (i:Int) (gwn g j:Nat)) 1) (j:Nat))=((spl (gwn g) (j+1) i).1:Int):=by
        rw[bit_shr i (by omega) _ (w1 j),hsu,hsb]
        dsimp only
        cases i.testBit (gwn g j) with
        | true=>exact or_bit j (by omega) _ l1
        | false=>exact or_no j (by omega) _ l1
      have e2:andNotI ((spl (gwn g) j i).2:Int) (shlI 1 (gwn g j:Nat))=((spl (gwn g) (j+1) i).2:Int):=by
        rw[clB_not _ l2 _ (w1 j),hsu]
      unfold orI shlI andI shrI at e1
      unfold andNotI shlI at e2
      conv=>whnf
      rw[e1,e2]
      refine⟨(j+1,Hj),⟨by dsimp only;omega,hsj⟩,by dsimp only;omega,?_⟩
      refine⟨rfl,rfl,?_⟩
      conv=>whnf
      repeat (refine⟨rfl,?_⟩;conv=>whnf)
      refine⟨by show En.v (.int .i64 (IntKind.i64.wrap (j+1)))=_;rw[wrap_id (by omega) (by omega)]<;>rfl,?_⟩
      conv=>whnf
      repeat (refine⟨rfl,?_⟩;conv=>whnf)
      exact trivial
    have hij:j=g.ws.length:=by
      have:=of_decide_eq_false hcj
      omega
    subst hij
    dsimp only
    obtain⟨q1,q2⟩:=spl_lt (gwn g) w1 g.ws.length i (by omega)
    have hrest:=spl_le (gwn g) w1 w3 hok.n6 (b:=i) (by omega)
    have hrow:(spl (gwn g) g.ws.length i).1 < (gM g).length:=by rw[dm1];exact q1
    have hrl:=dm2 _ hrow
    have pc3:2 ^ g.ws.length≤8:=Nat.le_trans (Nat.pow_le_pow_right (by decide) a2) (by decide)
    obtain⟨rb,roff,rb',roff',rcap',rfl,hr1,hr2⟩:=MatH.rowAt hm hrow (by rw[hrl];exact Nat.pow_pos (by decide))
    have hsa2:=hsi.trans hsj
    conv=>whnf
    refine dec_intro (Int.ofNat_lt.2 hrow) ?_
    conv=>whnf
    refine⟨_,hr1 Hj Oi hsa2,?_⟩
    conv=>whnf
    refine W_loop (pol:=(fun | 109=>.imm | _=>.loc)) Γok (Nat × PH × PH) (fun z=>z.1≤2 ^ g.ws.length∧Sub Hj z.2.1∧z.2.2 bw=some (.cells ⟨cellsN (outX v g i (dotP (rowC v g i z.1)).1)⟩ 32 (0,0))∧(∀ n,n ≠ bw→z.2.2 n=Oa n)∧(dotP (rowC v g i z.1)).2=0) (fun z=>2 ^ g.ws.length - z.1) (fun z=>[(15,.v (.bool (rowC v g i z.1).isEmpty)),(62,.v (.int .i64 z.1))]) (fun _=>[]) (fun z=>z.2.1) (fun z=>z.2.2) ⟨(0,Hj,Oi),⟨by simp,Sub.refl _,hOi,hOn,rfl⟩,rfl,rfl,?_⟩ ?_
    · conv=>whnf
      repeat (refine⟨rfl,?_⟩;conv=>whnf)
      exact trivial
    rintro ⟨c,Hc,Oc⟩ ⟨h1c,hsc,hOc,hOcn,hpc⟩
    dsimp only at h1c hsc hOc hOcn hpc
    have hsac:=hsa2.trans hsc
    conv=>whnf
    rw[hrl]
    refine if_intro (fun hcc=>?_) (fun hcc=>?_)
    · have hic:c < 2 ^ g.ws.length:=by
        have:=of_decide_eq_true hcc
        omega
      have hic2:c < ((gM g)[(spl (gwn g) g.ws.length i).1]).length:=by omega
      have eent:entry (gM g) (spl (gwn g) g.ws.length i).1 c=((gM g)[(spl (gwn g) g.ws.length i).1])[c]:=entry_get hrow hic2
      have enz:nzB (gM g) (spl (gwn g) g.ws.length i).1 c=!eqN (((gM g)[(spl (gwn g) g.ws.length i).1])[c]) (P4.zero,0):=by unfold nzB;rw[eent]
      conv=>whnf
      refine dec_intro (Int.ofNat_lt.2 hic) ?_
      conv=>whnf
      refine⟨_,hr2 c hic2 Hc Oc hsac,?_⟩
      conv=>whnf
      intro b17
      conv=>whnf
      refine if_intro (fun hz=>?_) (fun hz=>?_)
      · have hz':nzB (gM g) (spl (gwn g) g.ws.length i).1 c=false:=by
          rw[enz,show eqN (((gM g)[(spl (gwn g) g.ws.length i).1])[c]) (P4.zero,0)=true from hz]
          rfl
        have ec:rowC v g i (c+1)=rowC v g i c:=by rw[rowC_succ,hz'];simp
        conv=>whnf
        refine⟨(c+1,Hc,Oc),⟨by dsimp only;omega,hsc,by dsimp only;rw[ec];exact hOc,hOcn,by dsimp only;rw[ec];exact hpc⟩,Nat.sub_lt_sub_left hic (Nat.lt_succ_self c),?_⟩
        refine⟨rfl,rfl,?_⟩
        dsimp only
        rw[ec]
        conv=>whnf
        repeat (refine⟨rfl,?_⟩;conv=>whnf)
        refine⟨by show En.v (.int .i64 (IntKind.i64.wrap (c+1)))=_;rw[wrap_id (by omega) (by omega)]<;>rfl,?_⟩
        conv=>whnf
        repeat (refine⟨rfl,?_⟩;conv=>whnf)
        exact trivial
      · have hz':nzB (gM g) (spl (gwn g) g.ws.length i).1 c=true:=by
          rw[enz,show eqN (((gM g)[(spl (gwn g) g.ws.length i).1])[c]) (P4.zero,0)=false from hz]
          rfl
        have ec:rowC v g i (c+1)=rowC v g i c++[rowX v g i c]:=by rw[rowC_succ,hz',if_pos rfl]
        have epx:(rowX v g i c).1=((gM g)[(spl (gwn g) g.ws.length i).1])[c]:=eent
        conv=>whnf
        refine W_loop (pol:=(fun | 109=>.imm | _=>.loc)) Γok (Nat × PH) (fun z=>z.1≤g.ws.length∧Sub Hc z.2) (fun z=>g.ws.length - z.1) (fun z=>[(18,.v (.int .i64 (cmbN (gwn g) c z.1 (spl (gwn g) g.ws.length i).2))),(74,.v (.int .i64 z.1))]) (fun _=>[]) (fun z=>z.2) (fun _=>Oc) ⟨(0,Hc),⟨by simp,Sub.refl _⟩,rfl,rfl,?_⟩ ?_
        · conv=>whnf
          repeat (refine⟨rfl,?_⟩;conv=>whnf)
          exact trivial
        rintro ⟨k,Hk⟩ ⟨h1k,hsk⟩
        dsimp only at h1k hsk
        have hsak:=hsac.trans hsk
        conv=>whnf
        refine if_intro (fun hck=>?_) (fun hck=>?_)
        · have hik:k < g.ws.length:=by
            have:=of_decide_eq_true hck
            omega
          obtain⟨bb,off,rfl,hrd⟩:=(IntsH.up hw hsak).rd hik
          have ew:g.ws[k]=((gwn g k:Nat):Int):=by
            have:=(w2 k hik).2
            rw[List.getD_eq_getElem?_getD,List.getElem?_eq_getElem hik] at this
            exact this
          rw[ew] at hrd
          conv=>whnf
          refine dec_intro (by omega) ?_
          conv=>whnf
          refine⟨_,hrd Oc,?_⟩
          have hcl:=cmb_lt (gwn g) c (n:=6) k (spl (gwn g) g.ws.length i).2 q2 fun a _=>w1 a
          have pc:2 ^ g.ws.length≤2 ^ 3:=Nat.pow_le_pow_right (by decide) a2
          have e1:orI ((cmbN (gwn g) c k (spl (gwn g) g.ws.length i).2:Nat):Int) (shlI (andI (shrI (c:Int) (k:Nat)) 1) (gwn g k:Nat))=((cmbN (gwn g) c (k+1) (spl (gwn g) g.ws.length i).2:Nat):Int):=by
            rw[bit_shr c (by omega) _ (by omega)]
            show _=(((cmbN (gwn g) c k (spl (gwn g) g.ws.length i).2) ||| (if c.testBit k then 2 ^ gwn g k else 0):Nat):Int)
            cases c.testBit k with
            | true=>exact or_two _ hcl _ (w1 k)
            | false=>rw[if_neg (by simp),if_neg (by simp),Nat.or_zero];exact or_zero _ hcl _ (w1 k)
          unfold orI shlI andI shrI at e1
          conv=>whnf
          rw[e1]
          refine⟨(k+1,Hk),⟨by dsimp only;omega,hsk⟩,by dsimp only;omega,?_⟩
          refine⟨rfl,rfl,?_⟩
          conv=>whnf
          repeat (refine⟨rfl,?_⟩;conv=>whnf)
          refine⟨by show En.v (.int .i64 (IntKind.i64.wrap (k+1)))=_;rw[wrap_id (by omega) (by omega)]<;>rfl,?_⟩
          conv=>whnf
          repeat (refine⟨rfl,?_⟩;conv=>whnf)
          exact trivial
        have hik:k=g.ws.length:=by
          have:=of_decide_eq_false hck
          omega
        subst hik
        dsimp only
        have hfrom:cmbN (gwn g) c g.ws.length (spl (gwn g) g.ws.length i).2 < v.length:=by
          rw[hv]
          exact cmb_lt (gwn g) c g.ws.length _ hrest fun a ha=>(w2 a ha).1
        have epv:(rowX v g i c).2=v[cmbN (gwn g) c g.ws.length (spl (gwn g) g.ws.length i).2]:=by
          show vAt v _=_
          unfold vAt
          rw[List.getD_eq_getElem?_getD,List.getElem?_eq_getElem hfrom]
          rfl
        obtain⟨_,vb,voff,rfl,hvr⟩:=(NumH.up hx hsak).rd (O:=Oc) hfrom
        conv=>whnf
        refine W_draw (pol:=(fun | 109=>.imm | _=>.loc)) Γok mixes [(0,.pendO),(1,.pendO),(2,.pendO),(3,.pendO),(4,.pendO),(5,.lock),(6,.pendO),(7,.pendO),(8,.pendH),(9,.late),(10,.lock),(11,.pendO)] 123 (by kernel_rfl) rfl ?_
        conv=>whnf
        refine dec_intro (Int.ofNat_lt.2 hfrom) ?_
        conv=>whnf
        refine⟨_,hvr,?_⟩
        conv=>whnf
        have hcm:=c104 ((gM g)[(spl (gwn g) g.ws.length i).1])[c] v[cmbN (gwn g) c g.ws.length (spl (gwn g) g.ws.length i).2] Hk
        rw[← epx,← epv,Mul_eq] at hcm
        rw[← epx,← epv]
        refine hcm.val fun Hd sd=>?_
        clear hcm
        have hsad:=hsak.trans sd
        conv=>whnf
        intro b21
        conv=>whnf
        have hcells:=cells_at hOc (i:=i) (by rw[outX_len v g hii];exact hii)
        have hat:=outX_at v g i (dotP (rowC v g i c)).1 (by rw[outX_len v g hii];exact hii)
        rw[hat] at hcells
        have fin:∀ (z:P4 × Int),dotP (rowC v g i c++[rowX v g i c])=(z,0)→∀ O',O'=ins Oc bw (.cells ⟨(cellsN (outX v g i (dotP (rowC v g i c)).1)).take (0+i*5)++cellsOf z++(cellsN (outX v g i (dotP (rowC v g i c)).1)).drop (0+i*5+5)⟩ 32 (0,0))→O' bw=some (.cells ⟨cellsN (outX v g i (dotP (rowC v g i (c+1))).1)⟩ 32 (0,0))∧(∀ n,n ≠ bw→O' n=Oa n)∧(dotP (rowC v g i (c+1))).2=0:=by
          intro z hz O' hO'
          subst hO'
          rw[ec,hz]
          refine⟨?_,fun n hn=>(ins_ne _ _ hn).trans (hOcn n hn),rfl⟩
          rw[ins_same,cellsN_set _ _ _ (by rw[outX_len v g hii];exact hii),outX_set]
        have bad:∀ e:Int,dotP (rowC v g i c++[rowX v g i c])=((P4.zero,0),e)→e ≠ 0→doneG v g=([],e):=by
          intro e he hne
          rw[← ec] at he
          have h1:=row_bad (v:=v) (g:=g) (a:=i) (c:=c+1) (by omega) (by rw[he];exact hne)
          rw[doneG_bad hii hpi (by rw[h1,he];exact hne),h1,he]
        refine if_intro (fun hme=>?_) (fun hme=>?_)
        · have hme:(MulR (rowX v g i c).1 (rowX v g i c).2).2=0:=by simpa using hme
          conv=>whnf
          refine if_intro (fun hfi=>?_) (fun hfi=>?_)
          · have hfi:(rowC v g i c).isEmpty=false:=by simpa using hfi
            have hL:=dotP_L _ hpc
            have hy:=(Mul_L hme).ok
            rw[checkF_checkR] at hy
            have hst:=step_more (p:=rowX v g i c) hpc hfi hme
            conv=>whnf
            refine W_draw (pol:=(fun | 109=>.imm | _=>.loc)) Γok mixes [(0,.pendO),(1,.pendO),(2,.pendO),(3,.pendO),(4,.pendO),(5,.lock),(6,.lock),(7,.pendO),(8,.pendO),(9,.pendH),(10,.lock),(11,.pendO)] 123 (by kernel_rfl) rfl ?_
            conv=>whnf
            refine dec_intro (Int.ofNat_lt.2 hii) ?_
            conv=>whnf
            refine⟨_,hcells Hd,?_⟩
            conv=>whnf
            intro b4 hb4 hO4
            conv=>whnf
            have s4:=sub_ins Hd (.cells ⟨cellsN [(dotP (rowC v g i c)).1,(MulR (rowX v g i c).1 (rowX v g i c).2).1]⟩ 32 (0,0)) hb4
            have hc:=d69 [(dotP (rowC v g i c)).1,(MulR (rowX v g i c).1 (rowX v g i c).2).1] (by simp) _ (.slice (some ⟨b4,0,none⟩) 2 2) (⟨_,_,rfl,.inr ⟨b4,0,_,_,_,rfl,ins_same Hd b4 (.cells ⟨cellsN [(dotP (rowC v g i c)).1,(MulR (rowX v g i c).1 (rowX v g i c).2).1]⟩ 32 (0,0)),rfl⟩⟩)
            rw[sum_two hL hy] at hc
            refine hc.val fun He se=>?_
            clear hc
            conv=>whnf
            refine if_intro (fun hae=>?_) (fun hae=>?_)
            · have hae:(AddR (dotP (rowC v g i c)).1 (MulR (rowX v g i c).1 (rowX v g i c).2).1).2 ≠ 0:=by simpa using hae
              rw[if_neg hae] at hst
              conv=>whnf
              rw[bad _ hst hae]
              exact⟨_,none,rfl,OwnA.nil _ _ _,(fun n h=>by cases h),hops1.up (hsad.trans (s4.trans se)) (hOcn b hbb),fun n o hn hnb=>(hOcn n fun e=>by rw[e,hObw0] at hn;cases hn).trans ((hO1 n hnb).trans hn)⟩
            have hae:(AddR (dotP (rowC v g i c)).1 (MulR (rowX v g i c).1 (rowX v g i c).2).1).2=0:=by simpa using hae
            rw[if_pos hae] at hst
            conv=>whnf
            refine dec_intro (Int.ofNat_lt.2 hii) ?_
            conv=>whnf
            refine⟨_,_,hOc,?_,?_⟩
            · show _≤(cellsN _).length
              rw[cellsN_length,outX_len v g hii]
              simp
              omega
            conv=>whnf
            obtain⟨f1,f2,f3⟩:=fin _ hst _ rfl
            refine⟨(c+1,He,_),⟨by dsimp only;omega,hsc.trans (hsk.trans (sd.trans (s4.trans se))),f1,f2,f3⟩,Nat.sub_lt_sub_left hic (Nat.lt_succ_self c),?_⟩
            refine⟨rfl,rfl,?_⟩
            dsimp only
            rw[ec,show (rowC v g i c++[rowX v g i c]).isEmpty=false by simp]
            conv=>whnf
            repeat (refine⟨rfl,?_⟩;conv=>whnf)
            refine⟨by show En.v (.int .i64 (IntKind.i64.wrap (c+1)))=_;rw[wrap_id (by omega) (by omega)]<;>rfl,?_⟩
            conv=>whnf
            repeat (refine⟨rfl,?_⟩;conv=>whnf)
            exact trivial
          · have hfi:(rowC v g i c).isEmpty=true:=by simpa using hfi
            have hst:=step_first (p:=rowX v g i c) hpc hfi
            rw[if_pos hme] at hst
            conv=>whnf
            rw[hme]
            conv=>whnf
            refine dec_intro (Int.ofNat_lt.2 hii) ?_
            conv=>whnf
            refine⟨_,_,hOc,?_,?_⟩
            · show _≤(cellsN _).length
              rw[cellsN_length,outX_len v g hii]
              simp
              omega
            conv=>whnf
            obtain⟨f1,f2,f3⟩:=fin _ hst _ rfl
            refine⟨(c+1,Hd,_),⟨by dsimp only;omega,hsc.trans (hsk.trans sd),f1,f2,f3⟩,Nat.sub_lt_sub_left hic (Nat.lt_succ_self c),?_⟩
            refine⟨rfl,rfl,?_⟩
            dsimp only
            rw[ec,show (rowC v g i c++[rowX v g i c]).isEmpty=false by simp]
            conv=>whnf
            repeat (refine⟨rfl,?_⟩;conv=>whnf)
            refine⟨by show En.v (.int .i64 (IntKind.i64.wrap (c+1)))=_;rw[wrap_id (by omega) (by omega)]<;>rfl,?_⟩
            conv=>whnf
            repeat (refine⟨rfl,?_⟩;conv=>whnf)
            exact trivial
        · have hme:(MulR (rowX v g i c).1 (rowX v g i c).2).2 ≠ 0:=by simpa using hme
          have hst:=step_bad (p:=rowX v g i c) hpc hme
          conv=>whnf
          refine if_intro (fun hae=>?_) (fun hae=>?_)
          · conv=>whnf
            rw[bad _ hst hme]
            exact⟨_,none,rfl,OwnA.nil _ _ _,(fun n h=>by cases h),hops1.up hsad (hOcn b hbb),fun n o hn hnb=>(hOcn n fun e=>by rw[e,hObw0] at hn;cases hn).trans ((hO1 n hnb).trans hn)⟩
          · exfalso
            exact hme (by simpa using hae)
    have hic:c=2 ^ g.ws.length:=by
      have:=of_decide_eq_false hcc
      omega
    subst hic
    dsimp only
    have erow:dotP (rowC v g i (2 ^ g.ws.length))=rowG v g i:=rfl
    rw[erow] at hOc hpc
    rw[outX_end] at hOc
    conv=>whnf
    refine⟨(i+1,Hc,Oc),⟨by dsimp only;omega,hsac,hOc,hOcn,fun a ha=>?_⟩,by dsimp only;omega,?_⟩
    · dsimp only at ha
      rcases Nat.lt_succ_iff_lt_or_eq.1 ha with h | rfl
      · exact hpi a h
      · exact hpc
    refine⟨rfl,rfl,?_⟩
    conv=>whnf
    repeat (refine⟨rfl,?_⟩;conv=>whnf)
    refine⟨by show En.v (.int .i64 (IntKind.i64.wrap (i+1)))=_;rw[wrap_id (by omega) (by omega)]<;>rfl,?_⟩
    conv=>whnf
    repeat (refine⟨rfl,?_⟩;conv=>whnf)
    exact trivial
  have hii:i=v.length:=by
    have:=of_decide_eq_false hci
    omega
  subst hii
  conv=>whnf
  rw[doneG_good hpi]
  rw[Nat.sub_self,show zeros 0=[] from rfl,List.append_nil] at hOi
  refine⟨_,some bw,rfl,?_,(fun n h=>by cases h;exact hObw0),hops1.up hsi (hOn b hbb),fun n o hn hnb=>(hOn n fun e=>by rw[e,hObw0] at hn;cases hn).trans ((hO1 n hnb).trans hn)⟩
  refine⟨fun x hx=>?_,.inr ⟨bw,v.length,[],rfl,by simp[outP_len],?_,by simp[outP_len],by simp[outP_len]⟩⟩
  · obtain⟨y,_,rfl⟩:=List.mem_map.1 hx
    rfl
  · show Oi bw=_
    rw[hOi,List.append_nil]
    rfl
end Go.Proofs.YtmhnalikebkhjaaGreatDoor

namespace Go.Proofs.YtmhnalikebkhjaaGreatDoor
open Go.Proofs.YtmhnalikebkhjaaGreatDoor.X Go.Proofs.YtmhnalikebkhjaaGreatDoor.X.PH
set_option maxRecDepth 100000
theorem Cl.dis {P : Program} {f:FuncId} {args:List Value} {H M:PH} {Q:Value→PH→PH→Prop} (he:Ent P f) (h:Dis H M→Cl P f args H M Q):Cl P f args H M Q:=by
  unfold Cl at *
  exact⟨he,fun w a b d=>(h d).2 w a b d⟩
theorem d76 (w n : Int) (H:PH) (b:Nat) (t:TypeId) (hb:H b=some (.cells ⟨[.int .i64 n]⟩ t (0,0))):Cl Tryz.prog 76 [.int .i64 w,.pointer (some ⟨b,0,none⟩)] H emp fun r _ _=>r=.bool (inW n w):=by
  refine Cl_of (pol:=polL) Γok Tryz.func76 (by kernel_rfl) rfl ?_
  conv=>whnf
  unfold inW
  refine if_intro (fun h=>?_) (fun h=>?_)
  · conv=>whnf
    refine⟨_,Rd.whole hb,?_⟩
    conv=>whnf
    rw[h]
    rfl
  · conv=>whnf
    rw[h]
    rfl
set_option maxHeartbeats 1000000 in
theorem d27o (v : Vec) (g:Gt) (hv:v.length < 9223372036854775808) (hl:g.ws.length < 1000000) (H:PH) (x w:Value) (hx:NumH H x v) (hw:IntsC H w g.ws):Cl Tryz.prog 27 [x,gv g w] H emp fun r _ M'=>OutVO M' r (applyV v g):=by
  obtain⟨xb,xc,rfl,_⟩:=id hx
  obtain⟨wb,wc,rfl,hwc,hwh⟩:=id hw
  have ent:=(d63 [] (fun _=>true) emp (.slice none 0 0) (.func 76) #[] #[] ⟨none,0,rfl,.inl ⟨rfl,rfl⟩⟩ (fun x hx=>by cases hx) (by decide)).ent
  refine Cl_of (pol:=(fun | 6=>.own | _=>.loc)) Γok Tryz.func27 (by kernel_rfl) rfl ?_
  conv=>whnf
  intro b3
  conv=>whnf
  refine (d44 v hv _ _ hx).val fun Ha sa=>?_
  conv=>whnf
  intro b6 hb6 hO6
  conv=>whnf
  refine⟨_,_,ins_same _ _ _,by simp,?_⟩
  conv=>whnf
  rw[wires_err]
  refine if_intro (fun h=>?_) (fun h=>?_)
  · conv=>whnf
    rw[show applyV v g=([],stErr v) from if_pos (by simpa using h)]
    exact OutVO.bad
  have h0:stErr v=0:=by simpa using h
  have ew:wiresI v=(sizeI v.length,0):=if_neg (by rw[h0];simp)
  rw[ew]
  dsimp only
  have eap:applyV v g=if gErr g (sizeI v.length) ≠ 0 then ([],gErr g (sizeI v.length)) else doneG v g:=if_neg (by rw[h0];simp)
  have bad:∀ e:Int,gErr g (sizeI v.length)=e→e ≠ 0→applyV v g=([],e):=fun e he hne=>by rw[eap,he,if_pos hne]
  obtain⟨_,q,hq,hl2,hs⟩:=stErr_right h0
  conv=>whnf
  refine if_intro (fun h1=>?_) (fun h1=>?_)
  · conv=>whnf
    rw[bad 3 (if_pos (.inl (of_decide_eq_true h1))) (by decide)]
    exact OutVO.bad
  conv=>whnf
  refine if_intro (fun h2=>?_) (fun h2=>?_)
  · conv=>whnf
    rw[bad 3 (if_pos (.inr (of_decide_eq_true h2))) (by decide)]
    exact OutVO.bad
  have h12:¬ (g.kind < 1∨g.kind > 12):=fun h=>h.elim (of_decide_eq_false h1) (of_decide_eq_false h2)
  conv=>whnf
  refine W_draw (pol:=(fun | 6=>.own | _=>.loc)) Γok mixes [(0,.pend),(1,.pend),(2,.pend),(3,.pendO),(4,.pendO),(5,.lock),(6,.pendO)] 59 (by kernel_rfl) rfl ?_
  conv=>whnf
  refine (d75 g.kind _).val fun Hb sb=>?_
  conv=>whnf
  refine if_intro (fun h3=>?_) (fun h3=>?_)
  · conv=>whnf
    rw[bad 2 (by unfold gErr;rw[if_neg h12,if_pos (by simpa using h3)]) (by decide)]
    exact OutVO.bad
  have h3:¬ (g.ws.length:Int) ≠ arityF g.kind:=by simpa using h3
  conv=>whnf
  refine Cl.dis ent fun hd=>?_
  refine Cl.publish b6 _ (ins_same _ _ _) ?_
  have sp:=sub_ins Hb (.cells ⟨List.take 0 [Value.int .i64 0]++[Value.int .i64 (sizeI v.length)]++List.drop (0+1) [Value.int .i64 0]⟩ 3 (0,0)) (n:=b6) ((hd b6).resolve_right (by rw[ins_same];simp))
  have hbb:=ins_same Hb b6 (.cells ⟨[Value.int .i64 (sizeI v.length)]⟩ 3 (0,0))
  refine (d63 g.ws (inW (sizeI v.length)) _ _ _ _ _ (IntsH.up (IntsH.up (IntsH.up hwh sa) sb) sp) (fun y hy=>⟨76,[],[_],rfl,fun H' hs'=>d76 y (sizeI v.length) H' _ _ (hs' _ _ hbb)⟩) (by omega)).val fun Hc sc=>?_
  conv=>whnf
  refine if_intro (fun h4=>?_) (fun h4=>?_)
  · conv=>whnf
    rw[bad 1 (by unfold gErr placesR;rw[if_neg h12,if_neg h3,if_pos (by simpa using h4)]) (by decide)]
    exact OutVO.bad
  have h4:¬ g.ws.all (inW (sizeI v.length))=false:=by simpa using h4
  have hw2:=((hw.up sa).up sb).up (sp.trans sc)
  have hwh2:=hw2.h
  have hx2:=NumH.up (NumH.up (NumH.up hx sa) sb) (sp.trans sc)
  conv=>whnf
  refine W_loop (pol:=(fun | 6=>.own | _=>.loc)) Γok (Nat × PH) (fun i=>i.1≤g.ws.length∧Sub Hc i.2∧∀ q,q < i.1→(g.ws.take q).contains (g.ws.getD q 0)=false) (fun i=>g.ws.length - i.1) (fun i=>[(41,.v (.int .i64 i.1))]) (fun _=>[]) (fun i=>i.2) (fun _=>_) ⟨(0,Hc),⟨by simp,Sub.refl _,fun q hq=>by omega⟩,rfl,rfl,?_⟩ ?_
  · conv=>whnf
    repeat (refine⟨rfl,?_⟩;conv=>whnf)
    exact trivial
  rintro ⟨j,Hj⟩ ⟨h1j,hsj,hpj⟩
  dsimp only at h1j hsj hpj
  conv=>whnf
  refine if_intro (fun hcj=>?_) (fun hcj=>?_)
  · have hij:j < g.ws.length:=by
      have:=of_decide_eq_true hcj
      omega
    conv=>whnf
    obtain⟨bb,off,rfl,hrd⟩:=(IntsH.up hwh2 hsj).rd hij
    conv=>whnf
    refine dec_intro (by omega) ?_
    conv=>whnf
    refine⟨_,hrd _,?_⟩
    conv=>whnf
    refine dec_intro (by omega) ?_
    conv=>whnf
    refine (c78 (g.ws.take j) g.ws[j] (by rw[List.length_take];omega) _ _ (IntsH.pre (IntsH.up hwh2 hsj) (by omega) (by split<;>simp[Addr.add]) rfl)).val fun H1 s1=>?_
    conv=>whnf
    refine if_intro (fun hx=>?_) (fun hx=>?_)
    · conv=>whnf
      rw[bad 5 (by unfold gErr placesR;rw[if_neg h12,if_neg h3,if_neg h4,if_pos (twice_true hij hx)]) (by decide)]
      exact OutVO.bad
    conv=>whnf
    refine⟨(j+1,H1),⟨by dsimp only;omega,hsj.trans s1,fun q hq=>by
        rcases Nat.lt_succ_iff_lt_or_eq.1 hq with h | rfl
        · exact hpj q h
        · rw[List.getD_eq_getElem?_getD,List.getElem?_eq_getElem hij];exact hx⟩,by dsimp only;omega,?_⟩
    refine⟨rfl,rfl,?_⟩
    conv=>whnf
    repeat (refine⟨rfl,?_⟩;conv=>whnf)
    refine⟨by show En.v (.int .i64 (IntKind.i64.wrap (j+1)))=_;rw[wrap_id (by omega) (by omega)]<;>rfl,?_⟩
    conv=>whnf
    repeat (refine⟨rfl,?_⟩;conv=>whnf)
    exact trivial
  have hij:j=g.ws.length:=by
    have:=of_decide_eq_false hcj
    omega
  subst hij
  dsimp only
  conv=>whnf
  have hc4:¬ twiceF g.ws=true:=by rw[twice_false hpj];simp
  have hg0:gErr g (sizeI v.length)=0:=by unfold gErr placesR;rw[if_neg h12,if_neg h3,if_neg h4,if_neg hc4]
  have hok:GateOK g q:=gErr_ok (by omega) (by rw[← hs];exact hg0)
  rw[show applyV v g=doneG v g by rw[eap,hg0,if_neg (by simp)]]
  intro bm hbm hOm
  conv=>whnf
  refine (d78 v g q hok hl2 bm _ _ (OpsO.new (ins_same _ _ _)) _ _ (NumH.up hx2 hsj) (hw2.up hsj)).mono fun r Hd Od sd hr=>?_
  obtain⟨u,ob,rfl,hu,_⟩:=hr
  conv=>whnf
  exact⟨u,rfl,hu.num⟩
end Go.Proofs.YtmhnalikebkhjaaGreatDoor

namespace Go.Proofs.YtmhnalikebkhjaaGreatDoor
open Go.Proofs.YtmhnalikebkhjaaGreatDoor.X Go.Proofs.YtmhnalikebkhjaaGreatDoor.X.PH
set_option maxRecDepth 100000
def foundX (v : Vec) (w:Nat) (x:Int) (i:Nat):Vec:=keptN v w x i++(leastV v).drop i
theorem keptN_len (v : Vec) (w:Nat) (x:Int) (n:Nat):(keptN v w x n).length=n:=by simp[keptN]
theorem foundX_len (v : Vec) (w:Nat) (x:Int) {i:Nat} (h:i≤v.length):(foundX v w x i).length=v.length:=by
  simp[foundX,keptN_len,leastV_len]
  omega
theorem foundX_set (v : Vec) (w:Nat) (x:Int) {i:Nat} (h:i < v.length) (y:P4 × Int) (hy:kept1 v w x i=y):(foundX v w x i).set i y=foundX v w x (i+1):=by
  unfold foundX
  rw[List.set_append_right _ _ (by rw[keptN_len];exact Nat.le_refl _),keptN_len,Nat.sub_self,List.drop_eq_getElem_cons (by rw[leastV_len];exact h),List.set_cons_zero,keptN_succ,List.append_assoc,hy]
  rfl
theorem foundX_keep (v : Vec) (w:Nat) (x:Int) {i:Nat} (h:i < v.length) (hy:keepB i w x=true):foundX v w x (i+1)=foundX v w x i:=by
  have hl:i < (leastV v).length:=by rw[leastV_len];exact h
  unfold foundX
  rw[keptN_succ,List.append_assoc,List.drop_eq_getElem_cons hl]
  congr 1
  show kept1 v w x i::_=_
  congr 1
  have e1:(leastV v)[i]=(LeastF v[i].1 v[i].2).1:=by simp[leastV]
  rw[e1]
  unfold kept1 vAt
  rw[if_pos hy,List.getD_eq_getElem?_getD,List.getElem?_eq_getElem h]
  rfl
theorem foundX_end (v : Vec) (w:Nat) (x:Int):foundX v w x v.length=keptV v w x:=by
  unfold foundX
  rw[List.drop_of_length_le (by rw[leastV_len];exact Nat.le_refl _),List.append_nil]
  rfl
theorem kept_right {v : Vec} (h:stErr v=0) (w:Nat) (x:Int):stErr (keptV v w x)=0:=by
  obtain⟨hr,q,hq,hl,hs⟩:=stErr_right h
  unfold stErr
  rw[kept_len,if_neg (by omega)]
  unfold errsR
  refine firstErr_all fun e he=>?_
  obtain⟨y,hy,rfl⟩:=List.mem_map.1 he
  obtain⟨i,hi,rfl⟩:=List.mem_map.1 hy
  have hi:=List.mem_range.1 hi
  rw[← checkF_checkR]
  unfold kept1
  split
  · have ev:vAt v i=v[i]:=by simp[vAt,List.getD_eq_getElem?_getD,hi]
    rw[ev,LeastF_eq (hr _ (List.getElem_mem hi))]
    exact (formR_right (hr _ (List.getElem_mem hi))).1
  · decide
set_option maxHeartbeats 1000000 in
theorem d79x (v : Vec) (w:Nat) (x:Int) (hv:v.length≤64) (hw:w < 6) (H:PH) (u:Value) (hu:NumH H u v):Cl Tryz.prog 79 [u,.int .i64 w,.int .i64 x] H emp fun r _ M'=>∃ b,r=.slice (some ⟨b,0,none⟩) v.length v.length∧M' b=some (.cells ⟨cellsN (keptV v w x)⟩ 32 (0,0)):=by
  obtain⟨ub,uc,rfl,_⟩:=id hu
  refine Cl_of (pol:=polL) Γok Tryz.func79 (by kernel_rfl) rfl ?_
  conv=>whnf
  refine (d95x v (by omega) _ _ hu).mono fun r Ha Oa sa hr=>?_
  obtain⟨bw,rfl,hO⟩:=hr
  conv=>whnf
  refine W_loop (pol:=polL) Γok (Nat × PH × PH) (fun i=>i.1≤v.length∧Sub Ha i.2.1∧i.2.2 bw=some (.cells ⟨cellsN (foundX v w x i.1)⟩ 32 (0,0))) (fun i=>v.length - i.1) (fun i=>[(13,.v (.int .i64 i.1))]) (fun _=>[]) (fun i=>i.2.1) (fun i=>i.2.2) ⟨(0,Ha,Oa),⟨by simp,Sub.refl _,hO⟩,rfl,rfl,?_⟩ ?_
  · conv=>whnf
    repeat (refine⟨rfl,?_⟩;conv=>whnf)
    exact trivial
  rintro ⟨i,Hi,Oi⟩ ⟨h1i,hsi,hOi⟩
  dsimp only at h1i hsi hOi
  conv=>whnf
  refine if_intro (fun hci=>?_) (fun hci=>?_)
  · have hii:i < v.length:=by
      have:=of_decide_eq_true hci
      omega
    have eb:=bit_cond (i:=i) (w:=w) (by omega) hw
    unfold andI shrI at eb
    conv=>whnf
    rw[eb]
    have ek:keepB i w x=((if i.testBit w then (1:Int) else 0) == x):=rfl
    refine if_intro (fun hx=>?_) (fun hx=>?_)
    · have hk:keepB i w x=false:=by
        rw[ek]
        simpa using hx
      conv=>whnf
      refine dec_intro (Int.ofNat_lt.2 hii) ?_
      conv=>whnf
      refine⟨_,_,hOi,?_,?_⟩
      · show _≤(cellsN _).length
        rw[cellsN_length,foundX_len v w x h1i]
        simp
        omega
      conv=>whnf
      refine⟨(i+1,Hi,ins Oi bw (.cells ⟨(cellsN (foundX v w x i)).take (0+i*5)++cellsOf (P4.zero,0)++(cellsN (foundX v w x i)).drop (0+i*5+5)⟩ 32 (0,0))),⟨by dsimp only;omega,hsi,?_⟩,by dsimp only;omega,?_⟩
      · refine (ins_same _ _ _).trans ?_
        congr 3
        rw[← foundX_set v w x hii (P4.zero,0) (by unfold kept1;rw[if_neg (by rw[hk];simp)])]
        exact cellsN_set _ i _ (by rw[foundX_len v w x h1i];exact hii)
      refine⟨rfl,rfl,?_⟩
      conv=>whnf
      repeat (refine⟨rfl,?_⟩;conv=>whnf)
      refine⟨by show En.v (.int .i64 (IntKind.i64.wrap (i+1)))=_;rw[wrap_id (by omega) (by omega)]<;>rfl,?_⟩
      conv=>whnf
      repeat (refine⟨rfl,?_⟩;conv=>whnf)
      exact trivial
    · have hk:keepB i w x=true:=by
        rw[ek]
        simpa using hx
      conv=>whnf
      refine⟨(i+1,Hi,Oi),⟨by dsimp only;omega,hsi,by dsimp only;rw[foundX_keep v w x hii hk];exact hOi⟩,by dsimp only;omega,?_⟩
      refine⟨rfl,rfl,?_⟩
      conv=>whnf
      repeat (refine⟨rfl,?_⟩;conv=>whnf)
      refine⟨by show En.v (.int .i64 (IntKind.i64.wrap (i+1)))=_;rw[wrap_id (by omega) (by omega)]<;>rfl,?_⟩
      conv=>whnf
      repeat (refine⟨rfl,?_⟩;conv=>whnf)
      exact trivial
  have hii:i=v.length:=by
    have:=of_decide_eq_false hci
    omega
  subst hii
  conv=>whnf
  rw[foundX_end] at hOi
  exact⟨bw,rfl,hOi⟩
theorem d28o (v : Vec) (w x:Int) (hv:v.length < 9223372036854775808) (H:PH) (u:Value) (hu:NumH H u v):Cl Tryz.prog 28 [u,.int .i64 w,.int .i64 x] H emp fun r _ M'=>OutVO M' r (findV v w x):=by
  obtain⟨ub,uc,rfl,_⟩:=id hu
  refine Cl_of (pol:=polL) Γok Tryz.func28 (by kernel_rfl) rfl ?_
  conv=>whnf
  refine (d44 v hv _ _ hu).val fun Ha sa=>?_
  conv=>whnf
  rw[wires_err]
  refine if_intro (fun h=>?_) (fun h=>?_)
  · conv=>whnf
    rw[show findV v w x=([],stErr v) from if_pos (by simpa using h)]
    exact OutVO.bad
  have h0:stErr v=0:=by simpa using h
  have ew:wiresI v=(sizeI v.length,0):=if_neg (by rw[h0];simp)
  rw[ew]
  dsimp only
  obtain⟨hright,q,hq,hl2,hs⟩:=stErr_right h0
  have bad1:(w < 0∨w ≥ sizeI v.length)→findV v w x=([],1):=fun h=>by unfold findV;rw[h0,if_neg (by simp),if_pos h]
  conv=>whnf
  refine if_intro (fun h1=>?_) (fun h1=>?_)
  · conv=>whnf
    rw[bad1 (.inl (of_decide_eq_true h1))]
    exact OutVO.bad
  conv=>whnf
  refine if_intro (fun h2=>?_) (fun h2=>?_)
  · conv=>whnf
    rw[bad1 (.inr (of_decide_eq_true h2))]
    exact OutVO.bad
  have hin:¬ (w < 0∨w ≥ sizeI v.length):=fun h=>h.elim (of_decide_eq_false h1) (of_decide_eq_false h2)
  have bad3:(x < 0∨x > 1)→findV v w x=([],3):=fun h=>by unfold findV;rw[h0,if_neg (by simp),if_neg hin,if_pos h]
  obtain⟨p1,p2⟩:=pow6 (n:=q) (by omega)
  have good:(x=0∨x=1)→findV v w x=(keptV v w.toNat x,0):=fun h=>findV_in h0 hin (by omega)
  obtain⟨w,rfl⟩:=natI (a:=w) (by omega)
  conv=>whnf
  refine if_intro (fun h3=>?_) (fun h3=>?_)
  · conv=>whnf
    refine if_intro (fun h4=>?_) (fun h4=>?_)
    · conv=>whnf
      have h3':x ≠ 0:=by simpa using h3
      have h4':x ≠ 1:=by simpa using h4
      rw[bad3 (by omega)]
      exact OutVO.bad
    · rw[good (.inr (by simpa using h4)),Int.toNat_natCast]
      conv=>whnf
      refine (d79x v w x (by omega) (by omega) _ _ (NumH.up hu sa)).mono fun r Hd Od sd hr=>?_
      obtain⟨bw,rfl,hO⟩:=hr
      conv=>whnf
      exact⟨_,rfl,vec_own' hO (kept_len _ _ _).symm⟩
  · rw[good (.inl (by simpa using h3)),Int.toNat_natCast]
    conv=>whnf
    refine (d79x v w x (by omega) (by omega) _ _ (NumH.up hu sa)).mono fun r Hd Od sd hr=>?_
    obtain⟨bw,rfl,hO⟩:=hr
    conv=>whnf
    exact⟨_,rfl,vec_own' hO (kept_len _ _ _).symm⟩
theorem find_right {v : Vec} {w x:Int} (h:(findV v w x).2=0):stErr (findV v w x).1=0:=by
  unfold findV at h ⊢
  by_cases h1:stErr v ≠ 0
  · rw[if_pos h1] at h;exact absurd h h1
  rw[if_neg h1] at h ⊢
  by_cases h2:w < 0∨w ≥ sizeI v.length
  · rw[if_pos h2] at h;cases h
  rw[if_neg h2] at h ⊢
  by_cases h3:x < 0∨x > 1
  · rw[if_pos h3] at h;cases h
  rw[if_neg h3]
  exact kept_right (by simpa using h1) _ _
theorem d29 (v : Vec) (w:Int) (hv:v.length < 9223372036854775808) (H:PH) (u:Value) (hu:NumH H u v):Cl Tryz.prog 29 [u,.int .i64 w] H emp fun r _ _=>r=ne (oddsV v w):=by
  obtain⟨ub,uc,rfl,_⟩:=id hu
  refine Cl_of (pol:=polL) Γok Tryz.func29 (by kernel_rfl) rfl ?_
  conv=>whnf
  intro b1
  conv=>whnf
  refine (Cl.outV (d28o v w 1 hv _ _ hu)).use fun r Ha sa hr=>?_
  obtain⟨_,y,rfl,hy⟩:=hr
  obtain⟨yb,yc,rfl,_⟩:=id hy
  conv=>whnf
  refine if_intro (fun h=>?_) (fun h=>?_)
  · conv=>whnf
    rw[show oddsV v w=((P4.zero,0),(findV v w 1).2) from if_pos (by simpa using h)]
    rfl
  have h0:(findV v w 1).2=0:=by simpa using h
  have e:oddsV v w=normG (P4.zero,0) (findV v w 1).1:=by
    unfold oddsV NormV
    rw[if_neg (by rw[h0];simp),if_neg (by rw[find_right h0];simp)]
  conv=>whnf
  refine (d68 (findV v w 1).1 (by have:=find_len v w 1;omega) _ _ hy).val fun Hb sb=>?_
  conv=>whnf
  rw[e]
  rfl
end Go.Proofs.YtmhnalikebkhjaaGreatDoor

namespace Go.Proofs.YtmhnalikebkhjaaGreatDoor
open Go.Proofs.YtmhnalikebkhjaaGreatDoor.X Go.Proofs.YtmhnalikebkhjaaGreatDoor.X.PH
set_option maxRecDepth 100000
def runC : Vec→List Gt→Vec × Int
  | v,[]=>(v,0)
  | v,g::gs=>if (doneG v g).2 ≠ 0 then doneG v g else runC (doneG v g).1 gs
theorem runC_step {v : Vec} {gs:List Gt} {i:Nat} (hi:i < gs.length):runC v (gs.drop i)=if (doneG v gs[i]).2 ≠ 0 then doneG v gs[i] else runC (doneG v gs[i]).1 (gs.drop (i+1)):=by
  rw[List.drop_eq_getElem_cons hi]
  rfl
theorem doneG_len {v : Vec} {g:Gt} (h:(doneG v g).2=0):(doneG v g).1.length=v.length:=by
  unfold doneG rowsE at h ⊢
  split
  · rename_i he
    rw[if_pos he] at h
    exact absurd h he
  · simp
theorem doneG_nil {v : Vec} {g:Gt} (h:(doneG v g).2 ≠ 0):doneG v g=([],(doneG v g).2):=by
  unfold doneG rowsE at h ⊢
  split
  · rfl
  · rename_i he
    rw[if_neg he] at h
    exact absurd rfl h
theorem runC_len : ∀ {gs:List Gt} {v:Vec},(runC v gs).2=0→(runC v gs).1.length=v.length
  | [],_,_=>rfl
  | g::gs,v,h=>by
    unfold runC at h ⊢
    by_cases h1:(doneG v g).2 ≠ 0
    · rw[if_pos h1] at h;exact absurd h h1
    · rw[if_neg h1] at h ⊢
      rw[runC_len h,doneG_len (by simpa using h1)]
theorem gate_ok {g : Gt} {wires bits:Int} {n:Nat} (hn:n≤6) (hw:wires=n) (h:gateErr g wires bits=0) (hk:g.kind≤12):GateOK g n:=by
  subst hw
  unfold gateErr at h
  by_cases h1:arityF g.kind=0
  · rw[if_pos h1] at h;cases h
  rw[if_neg h1] at h
  by_cases h2:(g.ws.length:Int) ≠ arityF g.kind
  · rw[if_pos h2] at h;cases h
  rw[if_neg h2] at h
  by_cases h3:g.ws.all (inW n)=false
  · rw[if_pos h3] at h;cases h
  rw[if_neg h3] at h
  by_cases h4:twiceF g.ws=true
  · rw[if_pos h4] at h;cases h
  exact⟨hn,(kind_le h1).1,hk,by simpa using h2,by simpa using h3,by simpa using h4⟩
theorem circ_gates {c : Ct} (h:circErr c=0):((1≤c.wires∧c.wires≤12)∧(0≤c.bits∧c.bits≤8))∧c.gates.length≤120∧∀ g∈c.gates,gateErr g c.wires c.bits=0:=by
  unfold circErr at h
  by_cases h1:(offF c.wires 1 12 || offF c.bits 0 8)=true
  · rw[if_pos h1] at h;cases h
  rw[if_neg h1] at h
  by_cases h2:c.gates.length > 120
  · rw[if_pos h2] at h;cases h
  rw[if_neg h2] at h
  exact⟨circ_in h1,by omega,fun g hg=>firstErr_zero h _ (List.mem_map.2 ⟨g,hg,rfl⟩)⟩
structure PlainOK (c : Ct) (n:Nat):Prop where
  n1:1≤n
  n6:n≤6
  wires:c.wires=n
  few:c.gates.length≤120
  ok:∀ g∈c.gates,GateOK g n
theorem plain_ok {c : Ct} (h:plainErr c=0):∃ n,PlainOK c n:=by
  unfold plainErr at h
  by_cases h1:circErr c ≠ 0
  · rw[if_pos h1] at h;exact absurd h h1
  rw[if_neg h1] at h
  by_cases h2:plainF c=false
  · rw[if_pos h2] at h;cases h
  rw[if_neg h2] at h
  by_cases h3:c.wires > 6
  · rw[if_pos h3] at h;cases h
  obtain⟨hin,hl,hg⟩:=circ_gates (c:=c) (by simpa using h1)
  obtain⟨n,hn⟩:=natI (a:=c.wires) (by omega)
  refine⟨n,by omega,by omega,hn,hl,fun g hgm=>gate_ok (by omega) hn (hg g hgm) ?_⟩
  have:=List.all_eq_true.1 (show c.gates.all plG=true by simpa[plainF] using h2) g hgm
  unfold plG at this
  rw[Bool.and_eq_true] at this
  exact of_decide_eq_true this.1
def colV (c : Ct) (k:Int):Vec × Int:=runC (basisI c.wires k).1 c.gates
theorem basis_in {n : Nat} (hn:n≤6) {k:Nat} (hk:k < 2 ^ n):basisI n k=((zeros (2 ^ n)).set k oneN,0):=by
  unfold basisI basisBad
  rw[Int.toNat_natCast,decide_eq_false (show ¬ (n:Int) < 0 by omega),decide_eq_false (show ¬ (n:Int) > 6 by omega),decide_eq_false (show ¬ (k:Int) < 0 by omega),decide_eq_false (show ¬ (k:Int) ≥ ((2 ^ n:Nat):Int) by omega),if_neg (by simp),Int.toNat_natCast]
theorem basis_len {n : Nat} (hn:n≤6) {k:Nat} (hk:k < 2 ^ n):(basisI n k).1.length=2 ^ n∧(basisI n k).2=0:=by
  rw[basis_in hn hk]
  exact⟨by simp[zeros],rfl⟩
theorem d73 (v : Vec) (g:Gt) (n:Nat) (hok:GateOK g n) (hv:v.length=2 ^ n) (H:PH) (x w:Value) (hx:NumH H x v) (hw:IntsC H w g.ws):Cl Tryz.prog 73 [x,gv g w] H emp fun r H' _=>OutVH H' r (doneG v g):=Cl.outV (d73o v g n hok hv H x w hx hw)
theorem d78h (v : Vec) (g:Gt) (n:Nat) (hok:GateOK g n) (hv:v.length=2 ^ n) (b:Nat) (H O:PH) (hops:OpsO H O b) (x w:Value) (hx:NumH H x v) (hw:IntsC H w g.ws):Cl Tryz.prog 78 [.map (some b),x,gv g w] H O fun r H' O'=>OutVH H' r (doneG v g)∧OpsO H' O' b∧∀ n o,O n=some o→n ≠ b→O' n=some o:=by
  have hb:O b ≠ none:=by
    obtain⟨es,clk,h,_⟩:=hops
    rw[h]
    simp
  refine (d78 v g n hok hv b H O hops x w hx hw).repart fun r H' O' _ hd h=>?_
  obtain⟨u,ob,e,hu,hf,hops',hk⟩:=h
  rcases hu.2 with⟨e1,e2,e3⟩ | ⟨bw,cap,sp,e1,e2,hO,q1,q2⟩
  · refine⟨H',O',.refl hd,⟨u,e,?_⟩,hops',hk⟩
    have:(doneG v g).1=[]:=by simpa using e3
    rw[e2,this]
    exact nilV H'
  · have hbw:=hf bw e1
    have hne:b ≠ bw:=fun e=>hb (by rw[e];exact hbw)
    refine⟨_,_,.one hd hO,⟨u,e,?_⟩,hops'.up (Repart.one hd hO).sub (del_ne _ hne),fun n o hn hnb=>(del_ne _ fun e=>by rw[e,hbw] at hn;cases hn).trans (hk n o hn hnb)⟩
    rw[e2]
    refine⟨some ⟨bw,0,none⟩,cap,by simp,.inr ⟨bw,0,_,_,_,rfl,ins_same _ _ _,?_⟩⟩
    show (((doneG v g).1.map cellsOf).flatten++sp).take _=_
    rw[show (cellsN (doneG v g).1).length=(((doneG v g).1.map cellsOf).flatten).length from rfl,List.take_left]
    rfl
theorem d41 (n k : Int) (H:PH):Cl Tryz.prog 41 [.int .i64 n,.int .i64 k] H emp fun r H' _=>OutVH H' r (basisI n k):=Cl.outV (d41o n k H)
theorem d45 (n k : Int) (H:PH):Cl Tryz.prog 45 [.int .i64 n,.int .i64 k] H emp fun r H' _=>OutVH H' r (basisI n k):=Cl.outV (d45o n k H)
set_option maxHeartbeats 1000000 in
theorem d83 (c : Ct) (n:Nat) (hc:PlainOK c n) (k:Nat) (hk:k < 2 ^ n) (H:PH) (x:Value) (hx:CircH H x c):Cl Tryz.prog 83 [x,.int .i64 k] H emp fun r H' _=>OutVH H' r (colV c k):=by
  obtain⟨gb,gc,rfl,hg⟩:=hx.sl
  have few:=hc.few
  obtain⟨bl1,bl2⟩:=basis_len hc.n6 hk
  refine Cl_of (pol:=polL) Γok Tryz.func83 (by kernel_rfl) rfl ?_
  conv=>whnf
  intro b2
  conv=>whnf
  rw[hc.wires]
  refine (d41 n k _).use fun r Ha sa hr=>?_
  obtain⟨_,u,rfl,hu⟩:=hr
  obtain⟨ub,uc,rfl,_⟩:=id hu
  rw[bl2]
  conv=>whnf
  refine W_loop (pol:=polL) Γok (Nat × PH × Value × Vec × Int) (fun i=>i.1≤c.gates.length∧Sub Ha i.2.1∧NumH i.2.1 i.2.2.1 i.2.2.2.1∧((i.2.2.2.2=0∧i.2.2.2.1.length=2 ^ n∧runC i.2.2.2.1 (c.gates.drop i.1)=colV c k)∨(i.2.2.2.2 ≠ 0∧colV c k=(i.2.2.2.1,i.2.2.2.2)))) (fun i=>c.gates.length - i.1) (fun i=>[(6,.v i.2.2.1),(7,.v (.int .i64 i.2.2.2.2)),(8,.v (.int .i64 i.1))]) (fun _=>[]) (fun i=>i.2.1) (fun _=>emp) ⟨(0,Ha,.slice ub (basisI n k).1.length uc,(basisI n k).1,0),⟨by simp,Sub.refl _,hu,.inl ⟨rfl,bl1,by unfold colV;rw[hc.wires]<;>rfl⟩⟩,rfl,rfl,?_⟩ ?_
  · conv=>whnf
    repeat (refine⟨rfl,?_⟩;conv=>whnf)
    exact trivial
  rintro ⟨i,Hi,xv,v,e⟩ ⟨h1i,hsi,hxv,hst⟩
  dsimp only at h1i hsi hxv hst
  obtain⟨xvb,xvc,rfl,_⟩:=id hxv
  conv=>whnf
  refine if_intro (fun hci=>?_) (fun hci=>?_)
  · have hii:i < c.gates.length:=by
      have:=of_decide_eq_true hci
      omega
    conv=>whnf
    refine if_intro (fun he=>?_) (fun he=>?_)
    · have he:e=0:=by simpa using he
      subst he
      rcases hst with⟨_,hvl,hrun⟩ | ⟨h,_⟩
      rotate_left
      · exact absurd rfl h
      rw[runC_step hii] at hrun
      obtain⟨b,off,w,wb,wc,rfl,hw,hrd,hwe⟩:=hg.rd hii
      subst hw
      conv=>whnf
      refine dec_intro (by omega) ?_
      conv=>whnf
      refine⟨_,hrd Hi emp (sa.trans hsi),?_⟩
      conv=>whnf
      refine (d73 v c.gates[i] n (hc.ok _ (List.getElem_mem hii)) hvl _ _ _ hxv (hwe.up (sa.trans hsi))).use fun r Hb sb hr=>?_
      obtain⟨_,u2,rfl,hu2⟩:=hr
      conv=>whnf
      refine⟨(i+1,Hb,u2,(doneG v c.gates[i]).1,(doneG v c.gates[i]).2),⟨by dsimp only;omega,hsi.trans sb,hu2,?_⟩,by dsimp only;omega,?_⟩
      · dsimp only
        by_cases h:(doneG v c.gates[i]).2 ≠ 0
        · rw[if_pos h] at hrun
          exact .inr ⟨h,hrun.symm⟩
        · rw[if_neg h] at hrun
          have h:(doneG v c.gates[i]).2=0:=by simpa using h
          exact .inl ⟨h,(doneG_len h).trans hvl,hrun⟩
      refine⟨rfl,rfl,?_⟩
      conv=>whnf
      repeat (refine⟨rfl,?_⟩;conv=>whnf)
      refine⟨by show En.v (.int .i64 (IntKind.i64.wrap (i+1)))=_;rw[wrap_id (by omega) (by omega)]<;>rfl,?_⟩
      conv=>whnf
      repeat (refine⟨rfl,?_⟩;conv=>whnf)
      exact trivial
    · have he:e ≠ 0:=by simpa using he
      rcases hst with⟨h,_⟩ | ⟨_,hres⟩
      · exact absurd h he
      conv=>whnf
      rw[hres]
      exact⟨_,rfl,hxv⟩
  have hii:i=c.gates.length:=by
    have:=of_decide_eq_false hci
    omega
  subst hii
  conv=>whnf
  rcases hst with⟨he,hvl,hrun⟩ | ⟨_,hres⟩
  · rw[List.drop_length] at hrun
    rw[← hrun,he]
    exact⟨_,rfl,hxv⟩
  · rw[hres]
    exact⟨_,rfl,hxv⟩
set_option maxHeartbeats 1000000 in
theorem d87 (c : Ct) (n:Nat) (hc:PlainOK c n) (k:Nat) (hk:k < 2 ^ n) (H:PH) (x:Value) (hx:CircH H x c):Cl Tryz.prog 87 [x,.int .i64 k] H emp fun r H' _=>OutVH H' r (colV c k):=by
  obtain⟨gb,gc,rfl,hg⟩:=hx.sl
  have few:=hc.few
  obtain⟨bl1,bl2⟩:=basis_len hc.n6 hk
  refine Cl_of (pol:=polL) Γok Tryz.func87 (by kernel_rfl) rfl ?_
  conv=>whnf
  intro b2
  conv=>whnf
  rw[hc.wires]
  refine (d45 n k _).use fun r Ha sa hr=>?_
  obtain⟨_,u,rfl,hu⟩:=hr
  obtain⟨ub,uc,rfl,_⟩:=id hu
  conv=>whnf
  intro bm hbm hOm
  conv=>whnf
  refine W_loop (pol:=polL) Γok (Nat × PH × PH × Value × Vec) (fun i=>i.1≤c.gates.length∧Sub Ha i.2.1∧OpsO i.2.1 i.2.2.1 bm∧NumH i.2.1 i.2.2.2.1 i.2.2.2.2∧i.2.2.2.2.length=2 ^ n∧runC i.2.2.2.2 (c.gates.drop i.1)=colV c k) (fun i=>c.gates.length - i.1) (fun i=>[(6,.v i.2.2.2.1),(25,.v (.int .i64 i.1))]) (fun _=>[]) (fun i=>i.2.1) (fun i=>i.2.2.1) ⟨(0,Ha,_,.slice ub (basisI n k).1.length uc,(basisI n k).1),⟨by simp,Sub.refl _,OpsO.new (ins_same emp bm _),hu,bl1,by unfold colV;rw[hc.wires]<;>rfl⟩,rfl,rfl,?_⟩ ?_
  · conv=>whnf
    repeat (refine⟨rfl,?_⟩;conv=>whnf)
    exact trivial
  rintro ⟨i,Hi,Oi,xv,v⟩ ⟨h1i,hsi,hops,hxv,hvl,hrun⟩
  dsimp only at h1i hsi hops hxv hvl hrun
  obtain⟨xvb,xvc,rfl,_⟩:=id hxv
  conv=>whnf
  refine if_intro (fun hci=>?_) (fun hci=>?_)
  · have hii:i < c.gates.length:=by
      have:=of_decide_eq_true hci
      omega
    rw[runC_step hii] at hrun
    obtain⟨b,off,w,wb,wc,rfl,hw,hrd,hwe⟩:=hg.rd hii
    subst hw
    conv=>whnf
    refine dec_intro (by omega) ?_
    conv=>whnf
    refine⟨_,hrd Hi Oi (sa.trans hsi),?_⟩
    conv=>whnf
    intro b10
    conv=>whnf
    refine (d78h v c.gates[i] n (hc.ok _ (List.getElem_mem hii)) hvl bm _ _ hops _ _ hxv (hwe.up (sa.trans hsi))).mono fun r Hb Ob sb hr=>?_
    obtain⟨⟨u2,rfl,hu2⟩,hops2,_⟩:=hr
    conv=>whnf
    refine if_intro (fun he=>?_) (fun he=>?_)
    · have he:(doneG v c.gates[i]).2 ≠ 0:=by simpa using he
      rw[if_pos he] at hrun
      conv=>whnf
      rw[← hrun,doneG_nil he]
      exact⟨_,rfl,nilV _⟩
    have he:(doneG v c.gates[i]).2=0:=by simpa using he
    rw[if_neg (by simpa using he)] at hrun
    conv=>whnf
    refine⟨(i+1,Hb,Ob,u2,(doneG v c.gates[i]).1),⟨by dsimp only;omega,hsi.trans sb,hops2,hu2,(doneG_len he).trans hvl,hrun⟩,by dsimp only;omega,?_⟩
    refine⟨rfl,rfl,?_⟩
    conv=>whnf
    repeat (refine⟨rfl,?_⟩;conv=>whnf)
    refine⟨by show En.v (.int .i64 (IntKind.i64.wrap (i+1)))=_;rw[wrap_id (by omega) (by omega)]<;>rfl,?_⟩
    conv=>whnf
    repeat (refine⟨rfl,?_⟩;conv=>whnf)
    exact trivial
  have hii:i=c.gates.length:=by
    have:=of_decide_eq_false hci
    omega
  subst hii
  conv=>whnf
  rw[List.drop_length] at hrun
  rw[← hrun]
  exact⟨_,rfl,hxv⟩
end Go.Proofs.YtmhnalikebkhjaaGreatDoor

namespace Go.Proofs.YtmhnalikebkhjaaGreatDoor
open Go.Proofs.YtmhnalikebkhjaaGreatDoor.X Go.Proofs.YtmhnalikebkhjaaGreatDoor.X.PH
set_option maxRecDepth 100000
structure RowsA (O : PH) (b0:Nat) (rvs:List Value) (rows:Mx) (obs:List (Option Nat)):Prop where
  main:O b0=some (.cells ⟨rvs⟩ 25 (0,0))
  l1:rvs.length=rows.length
  l2:obs.length=rows.length
  row:∀ (i:Nat) v r ob,rvs[i]?=some v→rows[i]?=some r→obs[i]?=some ob→VecA O v r ob
  ap:∀ (i j:Nat) a b,obs[i]?=some a→obs[j]?=some b→i ≠ j→Ap a b
  ne:∀ (i:Nat) a,obs[i]?=some a→a ≠ some b0
theorem RowsA.start {O : PH} {b0 s:Nat} (h:O b0=some (.cells ⟨List.replicate s (.slice none 0 0)⟩ 25 (0,0))):RowsA O b0 (List.replicate s (.slice none 0 0)) (List.replicate s []) (List.replicate s none):=by
  refine⟨h,by simp,by simp,fun i v r ob h1 h2 h3=>?_,fun i j a b h1 h2 _=>?_,fun i a h1=>?_⟩
  · rw[List.getElem?_replicate] at h1 h2 h3
    split at h1
    · rename_i hi
      rw[if_pos hi] at h2 h3
      cases h1;cases h2;cases h3
      exact OwnA.nil _ _ _
    · cases h1
  · rw[List.getElem?_replicate] at h1
    split at h1
    · cases h1;exact Ap.none_l _
    · cases h1
  · rw[List.getElem?_replicate] at h1
    split at h1
    · cases h1;simp
    · cases h1
theorem RowsA.up {O O' : PH} {b0:Nat} {rvs:List Value} {rows:Mx} {obs:List (Option Nat)} (h:RowsA O b0 rvs rows obs) (hs:Sub O O'):RowsA O' b0 rvs rows obs:=
  ⟨hs _ _ h.main,h.l1,h.l2,fun i v r ob a b c=>OwnA.up (h.row i v r ob a b c) hs,h.ap,h.ne⟩
theorem RowsA.app {O O4 O' : PH} {b0:Nat} {rvs X:List Value} {rows:Mx} {obs:List (Option Nat)} (h:RowsA O b0 rvs rows obs) {j bx:Nat} {ob:Option Nat} {r:Vec} {x:P4 × Int} {v2:Value}
    (hr:rows[j]?=some r) (hob:obs[j]?=some ob) (h4:VecA O4 v2 (r++[x]) (some bx)) (hf:ob=some bx∨O bx=none) (hk:Keeps O O4 ob) (hX:X=rvs.set j v2) (hO':O'=ins O4 b0 (.cells ⟨X⟩ 25 (0,0))) :
    RowsA O' b0 (rvs.set j v2) (rows.set j (r++[x])) (obs.set j (some bx)):=by
  subst hX hO'
  have hj:j < rows.length:=(List.getElem?_eq_some_iff.1 hr).1
  have hm4:O4 b0=some (.cells ⟨rvs⟩ 25 (0,0)):=hk _ _ h.main (h.ne j ob hob)
  have hbx:bx ≠ b0:=fun e=>by
    rcases hf with hf | hf
    · exact h.ne j ob hob (by rw[hf,e])
    · rw[e,h.main] at hf;cases hf
  have kI:Keeps O4 (ins O4 b0 (.cells ⟨rvs.set j v2⟩ 25 (0,0))) (some b0):=fun n o hn hne=>(ins_ne _ _ fun e=>hne (by rw[e])).trans hn
  have apn:∀ (i:Nat) a,obs[i]?=some a→i ≠ j→Ap (some bx) a:=fun i a hi hij=>by
    have hij2:=h.ap j i ob a hob hi (Ne.symm hij)
    have hil:i < rows.length:=by rw[← h.l2];exact (List.getElem?_eq_some_iff.1 hi).1
    exact Ap.fresh (h.row i _ _ a (List.getElem?_eq_getElem (by rw[h.l1];exact hil)) (List.getElem?_eq_getElem hil) hi) hij2 hf
  refine⟨ins_same _ _ _,by simp[h.l1],by simp[h.l2],fun i v r' ob' h1 h2 h3=>?_,fun i k a b h1 h2 hik=>?_,fun i a h1=>?_⟩
  · by_cases hij:j=i
    · subst hij
      rw[List.getElem?_set_self (by rw[h.l1];exact hj)] at h1
      rw[List.getElem?_set_self hj] at h2
      rw[List.getElem?_set_self (by rw[h.l2];exact hj)] at h3
      cases h1;cases h2;cases h3
      exact OwnA.keep h4 kI fun n hn hne=>by cases hn;cases hne;exact hbx rfl
    · rw[List.getElem?_set_ne hij] at h1 h2 h3
      have hv:=h.row i v r' ob' h1 h2 h3
      refine OwnA.keep (OwnA.keep hv hk (h.ap j i ob ob' hob h3 hij)) kI fun n hn hne=>?_
      cases hn
      exact h.ne i ob' h3 hne
  · by_cases hij:j=i
    · subst hij
      rw[List.getElem?_set_self (by rw[h.l2];exact hj)] at h1
      rw[List.getElem?_set_ne hik] at h2
      cases h1
      exact apn k b h2 (Ne.symm hik)
    · rw[List.getElem?_set_ne hij] at h1
      by_cases hkj:j=k
      · subst hkj
        rw[List.getElem?_set_self (by rw[h.l2];exact hj)] at h2
        cases h2
        exact (apn i a h1 (Ne.symm hij)).symm
      · rw[List.getElem?_set_ne hkj] at h2
        exact h.ap i k a b h1 h2 hik
  · by_cases hij:j=i
    · subst hij
      rw[List.getElem?_set_self (by rw[h.l2];exact hj)] at h1
      cases h1
      intro e
      cases e
      exact hbx rfl
    · rw[List.getElem?_set_ne hij] at h1
      exact h.ne i a h1
theorem RowsA.mat {H O : PH} {b0:Nat} {rvs:List Value} {rows:Mx} {obs:List (Option Nat)} (h:RowsA O b0 rvs rows obs) (hd:Dis H O) {n:Nat} (hn:n=rows.length):MatH (un H O) (.slice (some ⟨b0,0,none⟩) n n) rows:=by
  subst hn
  have hm:un H O b0=some (.cells ⟨rvs⟩ 25 (0,0)):=by
    unfold un
    rw[(hd b0).resolve_right (by rw[h.main];simp)]
    exact h.main
  refine⟨rvs,h.l1,⟨_,_,rfl,.inr ⟨b0,0,_,_,_,rfl,hm,by simp⟩⟩,fun i r u hr hu=>?_⟩
  have hi:i < rows.length:=(List.getElem?_eq_some_iff.1 hr).1
  exact NumO.share (h.row i u r _ hu hr (List.getElem?_eq_getElem (by rw[h.l2];exact hi))).num hd
theorem set_take_drop {α : Type} (l:List α) (j:Nat) (x:α) (hj:j < l.length):l.take (0+j*1)++[x]++l.drop (0+j*1+1)=l.set j x:=by
  rw[Nat.zero_add,Nat.mul_one,List.set_eq_take_append_cons_drop,if_pos hj]
  simp
theorem drop_take_one {α : Type} (l:List α) (j:Nat) (hj:j < l.length):(l.drop (0+j*1)).take 1=[l[j]]:=by
  rw[Nat.zero_add,Nat.mul_one,List.drop_eq_getElem_cons hj]
  rfl
def colN (c : Ct) (k:Nat):Vec × Int:=colV c (k:Int)
def rowsP (c : Ct) (s k j:Nat):Mx:=(List.range s).map fun i=>(List.range (if i < j then k+1 else k)).map fun q=>vAt (colN c q).1 i
def matC (c : Ct):Mx × Int:=
  if plainErr c ≠ 0 then ([],plainErr c) else if firstErr ((List.range (2 ^ c.wires.toNat)).map fun k=>(colN c k).2) ≠ 0 then ([],firstErr ((List.range (2 ^ c.wires.toNat)).map fun k=>(colN c k).2)) else (rowsP c (2 ^ c.wires.toNat) (2 ^ c.wires.toNat) 0,0)
theorem rowsP_len (c : Ct) (s k j:Nat):(rowsP c s k j).length=s:=by simp[rowsP]
theorem rowsP_get (c : Ct) (s k j:Nat) {i:Nat} (hi:i < s):(rowsP c s k j)[i]?=some ((List.range (if i < j then k+1 else k)).map fun q=>vAt (colN c q).1 i):=by
  unfold rowsP
  rw[List.getElem?_map,List.getElem?_range hi]
  rfl
theorem rowsP_zero (c : Ct) (s:Nat):rowsP c s 0 0=List.replicate s []:=by
  unfold rowsP
  apply List.ext_getElem?
  intro i
  by_cases hi:i < s
  · rw[List.getElem?_map,List.getElem?_range hi,List.getElem?_replicate,if_pos hi]
    rfl
  · rw[List.getElem?_eq_none (by simpa using hi),List.getElem?_eq_none (by simpa using hi)]
theorem rowsP_set (c : Ct) (s k j:Nat) (hj:j < s):(rowsP c s k j).set j (((List.range k).map fun q=>vAt (colN c q).1 j)++[vAt (colN c k).1 j])=rowsP c s k (j+1):=by
  apply List.ext_getElem?
  intro i
  by_cases hi:i < s
  · by_cases hij:j=i
    · subst hij
      rw[List.getElem?_set_self (by rw[rowsP_len];exact hj),rowsP_get c s k (j+1) hi,if_pos (by omega),List.range_succ,List.map_append]
      rfl
    · rw[List.getElem?_set_ne hij,rowsP_get c s k j hi,rowsP_get c s k (j+1) hi]
      have:(i < j)=(i < j+1):=propext (by omega)
      simp only[this]
  · rw[List.getElem?_eq_none (by rw[List.length_set,rowsP_len];omega),List.getElem?_eq_none (by rw[rowsP_len];omega)]
theorem rowsP_next (c : Ct) (s k:Nat):rowsP c s k s=rowsP c s (k+1) 0:=by
  apply List.ext_getElem?
  intro i
  by_cases hi:i < s
  · rw[rowsP_get c s k s hi,rowsP_get c s (k+1) 0 hi,if_pos hi,if_neg (by omega)]
  · rw[List.getElem?_eq_none (by rw[rowsP_len];omega),List.getElem?_eq_none (by rw[rowsP_len];omega)]
def OutR (M : PH) (r:Value) (x:Mx × Int):Prop:=∃ u,r=.tuple #[u,.int .i64 x.2]∧((u=.slice none 0 0∧x.1=[])∨∃ b0 rvs obs,u=.slice (some ⟨b0,0,none⟩) x.1.length x.1.length∧RowsA M b0 rvs x.1 obs)
theorem OutR.bad {M : PH} {e:Int}:OutR M (.tuple #[.slice none 0 0,.int .i64 e]) ([],e):=⟨_,rfl,.inl ⟨rfl,rfl⟩⟩
theorem Cl.outR {f : FuncId} {args:List Value} {H:PH} {x:Mx × Int} (h:Cl Tryz.prog f args H emp fun r _ M'=>OutR M' r x):Cl Tryz.prog f args H emp fun r H' _=>OutH H' r x:=
  h.repart fun _ _ _ _ hd h=>by
    obtain⟨u,e,h⟩:=h
    rcases h with⟨h1,h2⟩ | ⟨b0,rvs,obs,h1,h2⟩
    · refine⟨_,_,.refl hd,u,e,?_⟩
      rw[h1,h2]
      exact nilM _
    · exact⟨_,_,.all hd,u,e,by rw[h1];exact h2.mat hd rfl⟩
theorem col_bad {c : Ct} {s k:Nat} (hk:k < s) (h:∀ a,a < k→(colN c a).2=0) (hb:(colN c k).2 ≠ 0):firstErr ((List.range s).map fun k=>(colN c k).2)=(colN c k).2:=by
  obtain⟨q,hq⟩:∃ q,s=k+(q+1):=⟨s - k - 1,by omega⟩
  rw[hq,List.range_add,List.map_append,firstErr_append,firstErr_all fun e he=>?_,if_pos rfl]
  · rw[List.range_succ_eq_map]
    simp only[List.map_cons,firstErr,Nat.add_zero]
    rw[if_neg hb]
  · obtain⟨a,ha,rfl⟩:=List.mem_map.1 he
    exact h a (List.mem_range.1 ha)
set_option maxHeartbeats 2000000 in
theorem d32o (c : Ct) (hfit:c.fit) (H:PH) (x:Value) (hx:CircH H x c):Cl Tryz.prog 32 [x] H emp fun r _ M'=>OutR M' r (matC c):=by
  obtain⟨gb,gc,rfl,hg⟩:=hx.sl
  refine Cl_of (pol:=(fun | 50=>.imm | 5=>.own | _=>.loc)) Γok Tryz.func32 (by kernel_rfl) rfl ?_
  conv=>whnf
  intro b1
  conv=>whnf
  refine (d82 c hfit _ _ ⟨_,rfl,hg⟩).val fun Ha sa=>?_
  conv=>whnf
  refine if_intro (fun h=>?_) (fun h=>?_)
  · conv=>whnf
    rw[show matC c=([],plainErr c) from if_pos (by simpa using h)]
    exact OutR.bad
  have h0:plainErr c=0:=by simpa using h
  obtain⟨n,hc⟩:=plain_ok h0
  obtain⟨p1,p2⟩:=pow6 hc.n6
  have n6:=hc.n6
  have hw:=hc.wires
  have em:matC c=if firstErr ((List.range (2 ^ n)).map fun k=>(colN c k).2) ≠ 0 then ([],firstErr ((List.range (2 ^ n)).map fun k=>(colN c k).2)) else (rowsP c (2 ^ n) (2 ^ n) 0,0):=by
    unfold matC
    rw[h0,if_neg (by simp),hw,Int.toNat_natCast]
  rw[em]
  conv=>whnf
  refine dec_intro (by omega) ?_
  conv=>whnf
  rw[show IntKind.i64.wrap (1*2 ^ (min c.wires.toNat IntKind.i64.bits))=((2 ^ n:Nat):Int) by rw[hw];exact shl_nat (by omega)]
  have key:∀ k:Nat,k < 2 ^ n→(colN c k).2=0→(colN c k).1.length=2 ^ n:=fun k hk h=>by
    unfold colN colV at h ⊢
    rw[hw] at h ⊢
    rw[runC_len h]
    exact (basis_len hc.n6 hk).1
  have hcol:∀ (k:Nat),k < 2 ^ n→∀ H':PH,Sub Ha H'→Cl Tryz.prog 83 [cv c (.slice gb c.gates.length gc),.int .i64 k] H' emp fun r H2 _=>OutVH H2 r (colN c k):=fun k hk H' hs=>d83 c n hc k hk H' _ ⟨_,rfl,hg.up (sa.trans hs)⟩
  obtain⟨s,hs⟩:∃ s,s=2 ^ n:=⟨_,rfl⟩
  rw[← hs] at p1 p2 key hcol ⊢
  conv=>whnf
  refine dec_intro (Int.le_refl _) ?_
  conv=>whnf
  refine dec_intro (by omega) ?_
  conv=>whnf
  refine dec_intro (by omega) ?_
  conv=>whnf
  intro b0 hb0 hO0
  rw[show (List.replicate (s:Int).toNat [Value.slice none 0 0]).flatten=List.replicate s (.slice none 0 0) by simp]
  conv=>whnf
  refine W_loop (pol:=(fun | 50=>.imm | 5=>.own | _=>.loc)) Γok (Nat × PH × PH × List Value × List (Option Nat)) (fun i=>i.1≤s∧Sub Ha i.2.1∧RowsA i.2.2.1 b0 i.2.2.2.1 (rowsP c s i.1 0) i.2.2.2.2∧∀ a,a < i.1→(colN c a).2=0) (fun i=>s - i.1) (fun i=>[(6,.v (.int .i64 i.1))]) (fun _=>[]) (fun i=>i.2.1) (fun i=>i.2.2.1) ⟨(0,Ha,_,List.replicate s (.slice none 0 0),List.replicate s none),⟨by simp,Sub.refl _,by rw[rowsP_zero];exact RowsA.start (ins_same emp b0 _),fun a h=>absurd h (Nat.not_lt_zero _)⟩,rfl,rfl,?_⟩ ?_
  · conv=>whnf
    repeat (refine⟨rfl,?_⟩;conv=>whnf)
    exact trivial
  rintro ⟨k,Hk,Ok,rvs,obs⟩ ⟨h1k,hsk,hR,hpk⟩
  dsimp only at h1k hsk hR hpk
  conv=>whnf
  refine if_intro (fun hck=>?_) (fun hck=>?_)
  · have hik:k < s:=by
      have:=of_decide_eq_true hck
      omega
    conv=>whnf
    refine (hcol k hik Hk hsk).use fun r Hb sb hr=>?_
    obtain⟨_,u,rfl,hu⟩:=hr
    obtain⟨ub,uc,rfl,_⟩:=id hu
    conv=>whnf
    refine if_intro (fun he=>?_) (fun he=>?_)
    · have he:(colN c k).2 ≠ 0:=by simpa using he
      conv=>whnf
      rw[col_bad hik hpk he,if_pos he]
      exact OutR.bad
    have he:(colN c k).2=0:=by simpa using he
    have hul:=key k hik he
    conv=>whnf
    refine W_loop (pol:=(fun | 50=>.imm | 5=>.own | _=>.loc)) Γok (Nat × PH × PH × List Value × List (Option Nat)) (fun i=>i.1≤s∧Sub Hb i.2.1∧RowsA i.2.2.1 b0 i.2.2.2.1 (rowsP c s k i.1) i.2.2.2.2) (fun i=>s - i.1) (fun i=>[(9,.v (.int .i64 i.1))]) (fun _=>[]) (fun i=>i.2.1) (fun i=>i.2.2.1) ⟨(0,Hb,Ok,rvs,obs),⟨by simp,Sub.refl _,hR⟩,rfl,rfl,?_⟩ ?_
    · conv=>whnf
      repeat (refine⟨rfl,?_⟩;conv=>whnf)
      exact trivial
    rintro ⟨j,Hj,Oj,rvs,obs⟩ ⟨h1j,hsj,hRj⟩
    dsimp only at h1j hsj hRj
    have l1:=hRj.l1
    have l2:=hRj.l2
    rw[rowsP_len] at l1 l2
    conv=>whnf
    refine if_intro (fun hcj=>?_) (fun hcj=>?_)
    · have hij:j < s:=by
        have:=of_decide_eq_true hcj
        omega
      have hr:=rowsP_get c s k j hij
      rw[if_neg (Nat.lt_irrefl j)] at hr
      have hvr:=hRj.row j _ _ _ (List.getElem?_eq_getElem (by omega)) hr (List.getElem?_eq_getElem (by omega))
      obtain⟨rb,rc,er⟩:=VecA.sl hvr
      rw[er] at hvr
      have hju:j < (colN c k).1.length:=by omega
      obtain⟨_,vb,voff,rfl,hvrd⟩:=(NumH.up hu hsj).rd (O:=Oj) hju
      have evj:(colN c k).1[j]=vAt (colN c k).1 j:=by simp[vAt,List.getD_eq_getElem?_getD,hju]
      have hrow:Rd Hj Oj ⟨b0,0+j*1,none⟩ 1 [.slice rb ((List.range k).map fun q=>vAt (colN c q).1 j).length rc]:=by
        refine⟨rfl,rfl,_,_,_,.inr hRj.main,?_⟩
        refine (drop_take_one rvs j (by omega)).trans ?_
        rw[er]
      conv=>whnf
      refine W_draw (pol:=(fun | 50=>.imm | 5=>.own | _=>.loc)) Γok mixes [(0,.pendH),(1,.pendH),(2,.pendO),(3,.pendO),(4,.pendO),(5,.pendO),(6,.pendO),(7,.pendO),(8,.pendO),(9,.pendO),(10,.lock),(11,.lock),(12,.pendO),(13,.lock)] 54 (by kernel_rfl) rfl ?_
      conv=>whnf
      refine dec_intro (by omega) ?_
      conv=>whnf
      refine⟨_,hrow,?_⟩
      conv=>whnf
      refine dec_intro (by omega) ?_
      conv=>whnf
      refine⟨_,hvrd,?_⟩
      conv=>whnf
      intro b5 hb5 hO5
      conv=>whnf
      have s5:=sub_ins Hj (.cells ⟨cellsOf (colN c k).1[j]⟩ 32 (0,0)) hb5
      refine append_ap (xs:=(((List.range k).map fun q=>vAt (colN c q).1 j)).map cellsOf) (y:=cellsOf (colN c k).1[j]) hvr rfl rfl (cellsOf_one _) ⟨_,_,_,rfl,rfl,Rd.whole (ins_same _ _ _)⟩ ?_ fun v2 O4 bx h4 hf hk4=>?_
      · simp
        omega
      rw[evj] at h4
      have h4':VecA O4 v2 (((List.range k).map fun q=>vAt (colN c q).1 j)++[vAt (colN c k).1 j]) (some bx):=by
        unfold VecA
        rw[List.map_append]
        exact h4
      obtain⟨v2b,v2c,rfl⟩:=VecA.sl h4'
      have hm4:O4 b0=some (.cells ⟨rvs⟩ 25 (0,0)):=hk4 _ _ hRj.main (hRj.ne j _ (List.getElem?_eq_getElem (by omega)))
      conv=>whnf
      refine dec_intro (by omega) ?_
      conv=>whnf
      refine⟨_,_,hm4,?_,?_⟩
      · show 0+j*1+1≤rvs.length
        omega
      conv=>whnf
      have hnew:=hRj.app hr (List.getElem?_eq_getElem (by omega)) h4' hf hk4 (set_take_drop rvs j _ (by omega)) rfl
      rw[rowsP_set c s k j hij] at hnew
      refine⟨(j+1,_,_,_,_),⟨by dsimp only;omega,hsj.trans s5,hnew⟩,by dsimp only;omega,?_⟩
      refine⟨rfl,rfl,?_⟩
      conv=>whnf
      repeat (refine⟨rfl,?_⟩;conv=>whnf)
      refine⟨by show En.v (.int .i64 (IntKind.i64.wrap (j+1)))=_;rw[wrap_id (by omega) (by omega)]<;>rfl,?_⟩
      conv=>whnf
      repeat (refine⟨rfl,?_⟩;conv=>whnf)
      exact trivial
    have hij:j=s:=by
      have:=of_decide_eq_false hcj
      omega
    subst hij
    rw[rowsP_next] at hRj
    conv=>whnf
    refine⟨(k+1,Hj,Oj,rvs,obs),⟨by dsimp only;omega,hsk.trans (sb.trans hsj),hRj,fun a ha=>?_⟩,by dsimp only;omega,?_⟩
    · dsimp only at ha
      rcases Nat.lt_succ_iff_lt_or_eq.1 ha with h | rfl
      · exact hpk a h
      · exact he
    refine⟨rfl,rfl,?_⟩
    conv=>whnf
    repeat (refine⟨rfl,?_⟩;conv=>whnf)
    refine⟨by show En.v (.int .i64 (IntKind.i64.wrap (k+1)))=_;rw[wrap_id (by omega) (by omega)]<;>rfl,?_⟩
    conv=>whnf
    repeat (refine⟨rfl,?_⟩;conv=>whnf)
    exact trivial
  have hik:k=s:=by
    have:=of_decide_eq_false hck
    omega
  subst hik
  conv=>whnf
  rw[firstErr_all fun e he=>by
    obtain⟨a,ha,rfl⟩:=List.mem_map.1 he
    exact hpk a (List.mem_range.1 ha),if_neg (by simp)]
  exact⟨_,rfl,.inr ⟨b0,rvs,obs,by rw[rowsP_len]<;>rfl,hR⟩⟩
set_option maxHeartbeats 2000000 in
theorem d35o (c : Ct) (hfit:c.fit) (H:PH) (x:Value) (hx:CircH H x c):Cl Tryz.prog 35 [x] H emp fun r _ M'=>OutR M' r (matC c):=by
  obtain⟨gb,gc,rfl,hg⟩:=hx.sl
  refine Cl_of (pol:=(fun | 48=>.imm | 5=>.own | _=>.loc)) Γok Tryz.func35 (by kernel_rfl) rfl ?_
  conv=>whnf
  intro b1
  conv=>whnf
  refine (d86 c hfit _ _ ⟨_,rfl,hg⟩).val fun Ha sa=>?_
  conv=>whnf
  refine if_intro (fun h=>?_) (fun h=>?_)
  · conv=>whnf
    rw[show matC c=([],plainErr c) from if_pos (by simpa using h)]
    exact OutR.bad
  have h0:plainErr c=0:=by simpa using h
  obtain⟨n,hc⟩:=plain_ok h0
  obtain⟨p1,p2⟩:=pow6 hc.n6
  have n6:=hc.n6
  have hw:=hc.wires
  have em:matC c=if firstErr ((List.range (2 ^ n)).map fun k=>(colN c k).2) ≠ 0 then ([],firstErr ((List.range (2 ^ n)).map fun k=>(colN c k).2)) else (rowsP c (2 ^ n) (2 ^ n) 0,0):=by
    unfold matC
    rw[h0,if_neg (by simp),hw,Int.toNat_natCast]
  rw[em]
  conv=>whnf
  refine dec_intro (by omega) ?_
  conv=>whnf
  rw[show IntKind.i64.wrap (1*2 ^ (min c.wires.toNat IntKind.i64.bits))=((2 ^ n:Nat):Int) by rw[hw];exact shl_nat (by omega)]
  have key:∀ k:Nat,k < 2 ^ n→(colN c k).2=0→(colN c k).1.length=2 ^ n:=fun k hk h=>by
    unfold colN colV at h ⊢
    rw[hw] at h ⊢
    rw[runC_len h]
    exact (basis_len hc.n6 hk).1
  have hcol:∀ (k:Nat),k < 2 ^ n→∀ H':PH,Sub Ha H'→Cl Tryz.prog 87 [cv c (.slice gb c.gates.length gc),.int .i64 k] H' emp fun r H2 _=>OutVH H2 r (colN c k):=fun k hk H' hs=>d87 c n hc k hk H' _ ⟨_,rfl,hg.up (sa.trans hs)⟩
  obtain⟨s,hs⟩:∃ s,s=2 ^ n:=⟨_,rfl⟩
  rw[← hs] at p1 p2 key hcol ⊢
  conv=>whnf
  refine dec_intro (Int.le_refl _) ?_
  conv=>whnf
  refine dec_intro (by omega) ?_
  conv=>whnf
  refine dec_intro (by omega) ?_
  conv=>whnf
  intro b0 hb0 hO0
  rw[show (List.replicate (s:Int).toNat [Value.slice none 0 0]).flatten=List.replicate s (.slice none 0 0) by simp]
  conv=>whnf
  refine W_loop (pol:=(fun | 48=>.imm | 5=>.own | _=>.loc)) Γok (Nat × PH × PH × List Value × List (Option Nat)) (fun i=>i.1≤s∧Sub Ha i.2.1∧RowsA i.2.2.1 b0 i.2.2.2.1 (rowsP c s i.1 0) i.2.2.2.2∧∀ a,a < i.1→(colN c a).2=0) (fun i=>s - i.1) (fun i=>[(22,.v (.int .i64 i.1))]) (fun _=>[]) (fun i=>i.2.1) (fun i=>i.2.2.1) ⟨(0,Ha,_,List.replicate s (.slice none 0 0),List.replicate s none),⟨by simp,Sub.refl _,by rw[rowsP_zero];exact RowsA.start (ins_same emp b0 _),fun a h=>absurd h (Nat.not_lt_zero _)⟩,rfl,rfl,?_⟩ ?_
  · conv=>whnf
    repeat (refine⟨rfl,?_⟩;conv=>whnf)
    exact trivial
  rintro ⟨k,Hk,Ok,rvs,obs⟩ ⟨h1k,hsk,hR,hpk⟩
  dsimp only at h1k hsk hR hpk
  conv=>whnf
  refine if_intro (fun hck=>?_) (fun hck=>?_)
  · have hik:k < s:=by
      have:=of_decide_eq_true hck
      omega
    conv=>whnf
    refine (hcol k hik Hk hsk).use fun r Hb sb hr=>?_
    obtain⟨_,u,rfl,hu⟩:=hr
    obtain⟨ub,uc,rfl,_⟩:=id hu
    conv=>whnf
    refine if_intro (fun he=>?_) (fun he=>?_)
    · have he:(colN c k).2 ≠ 0:=by simpa using he
      conv=>whnf
      rw[col_bad hik hpk he,if_pos he]
      exact OutR.bad
    have he:(colN c k).2=0:=by simpa using he
    have hul:=key k hik he
    conv=>whnf
    refine W_loop (pol:=(fun | 48=>.imm | 5=>.own | _=>.loc)) Γok (Nat × PH × PH × List Value × List (Option Nat)) (fun i=>i.1≤s∧Sub Hb i.2.1∧RowsA i.2.2.1 b0 i.2.2.2.1 (rowsP c s k i.1) i.2.2.2.2) (fun i=>s - i.1) (fun i=>[(36,.v (.int .i64 i.1))]) (fun _=>[]) (fun i=>i.2.1) (fun i=>i.2.2.1) ⟨(0,Hb,Ok,rvs,obs),⟨by simp,Sub.refl _,hR⟩,rfl,rfl,?_⟩ ?_
    · conv=>whnf
      repeat (refine⟨rfl,?_⟩;conv=>whnf)
      exact trivial
    rintro ⟨j,Hj,Oj,rvs,obs⟩ ⟨h1j,hsj,hRj⟩
    dsimp only at h1j hsj hRj
    have l1:=hRj.l1
    have l2:=hRj.l2
    rw[rowsP_len] at l1 l2
    conv=>whnf
    rw[hul]
    refine if_intro (fun hcj=>?_) (fun hcj=>?_)
    · have hij:j < s:=by
        have:=of_decide_eq_true hcj
        omega
      have hr:=rowsP_get c s k j hij
      rw[if_neg (Nat.lt_irrefl j)] at hr
      have hvr:=hRj.row j _ _ _ (List.getElem?_eq_getElem (by omega)) hr (List.getElem?_eq_getElem (by omega))
      obtain⟨rb,rc,er⟩:=VecA.sl hvr
      rw[er] at hvr
      have hju:j < (colN c k).1.length:=by omega
      obtain⟨_,vb,voff,rfl,hvrd⟩:=(NumH.up hu hsj).rd (O:=Oj) hju
      have evj:(colN c k).1[j]=vAt (colN c k).1 j:=by simp[vAt,List.getD_eq_getElem?_getD,hju]
      have hrow:Rd Hj Oj ⟨b0,0+j*1,none⟩ 1 [.slice rb ((List.range k).map fun q=>vAt (colN c q).1 j).length rc]:=by
        refine⟨rfl,rfl,_,_,_,.inr hRj.main,?_⟩
        refine (drop_take_one rvs j (by omega)).trans ?_
        rw[er]
      conv=>whnf
      refine dec_intro (by omega) ?_
      conv=>whnf
      refine⟨_,hvrd,?_⟩
      conv=>whnf
      intro b10
      conv=>whnf
      refine W_draw (pol:=(fun | 48=>.imm | 5=>.own | _=>.loc)) Γok mixes [(0,.pendH),(1,.pendH),(2,.pendO),(3,.pendO),(4,.pendO),(5,.pendO),(6,.pendO),(7,.lock),(8,.lock),(9,.pendO),(10,.lock)] 54 (by kernel_rfl) rfl ?_
      conv=>whnf
      refine dec_intro (by omega) ?_
      conv=>whnf
      refine⟨_,hrow,?_⟩
      conv=>whnf
      intro b5 hb5 hO5
      conv=>whnf
      have s5:=sub_ins Hj (.cells ⟨cellsOf (colN c k).1[j]⟩ 32 (0,0)) hb5
      refine append_ap (xs:=(((List.range k).map fun q=>vAt (colN c q).1 j)).map cellsOf) (y:=cellsOf (colN c k).1[j]) hvr rfl rfl (cellsOf_one _) ⟨_,_,_,rfl,rfl,Rd.whole (ins_same _ _ _)⟩ ?_ fun v2 O4 bx h4 hf hk4=>?_
      · simp
        omega
      rw[evj] at h4
      have h4':VecA O4 v2 (((List.range k).map fun q=>vAt (colN c q).1 j)++[vAt (colN c k).1 j]) (some bx):=by
        unfold VecA
        rw[List.map_append]
        exact h4
      obtain⟨v2b,v2c,rfl⟩:=VecA.sl h4'
      have hm4:O4 b0=some (.cells ⟨rvs⟩ 25 (0,0)):=hk4 _ _ hRj.main (hRj.ne j _ (List.getElem?_eq_getElem (by omega)))
      conv=>whnf
      refine dec_intro (by omega) ?_
      conv=>whnf
      refine⟨_,_,hm4,?_,?_⟩
      · show 0+j*1+1≤rvs.length
        omega
      conv=>whnf
      have hnew:=hRj.app hr (List.getElem?_eq_getElem (by omega)) h4' hf hk4 (set_take_drop rvs j _ (by omega)) rfl
      rw[rowsP_set c s k j hij] at hnew
      refine⟨(j+1,_,_,_,_),⟨by dsimp only;omega,hsj.trans s5,hnew⟩,by dsimp only;omega,?_⟩
      refine⟨rfl,rfl,?_⟩
      conv=>whnf
      repeat (refine⟨rfl,?_⟩;conv=>whnf)
      refine⟨by show En.v (.int .i64 (IntKind.i64.wrap (j+1)))=_;rw[wrap_id (by omega) (by omega)]<;>rfl,?_⟩
      conv=>whnf
      repeat (refine⟨rfl,?_⟩;conv=>whnf)
      exact trivial
    have hij:j=s:=by
      have:=of_decide_eq_false hcj
      omega
    subst hij
    rw[rowsP_next] at hRj
    conv=>whnf
    refine⟨(k+1,Hj,Oj,rvs,obs),⟨by dsimp only;omega,hsk.trans (sb.trans hsj),hRj,fun a ha=>?_⟩,by dsimp only;omega,?_⟩
    · dsimp only at ha
      rcases Nat.lt_succ_iff_lt_or_eq.1 ha with h | rfl
      · exact hpk a h
      · exact he
    refine⟨rfl,rfl,?_⟩
    conv=>whnf
    repeat (refine⟨rfl,?_⟩;conv=>whnf)
    refine⟨by show En.v (.int .i64 (IntKind.i64.wrap (k+1)))=_;rw[wrap_id (by omega) (by omega)]<;>rfl,?_⟩
    conv=>whnf
    repeat (refine⟨rfl,?_⟩;conv=>whnf)
    exact trivial
  have hik:k=s:=by
    have:=of_decide_eq_false hck
    omega
  subst hik
  conv=>whnf
  rw[firstErr_all fun e he=>by
    obtain⟨a,ha,rfl⟩:=List.mem_map.1 he
    exact hpk a (List.mem_range.1 ha),if_neg (by simp)]
  exact⟨_,rfl,.inr ⟨b0,rvs,obs,by rw[rowsP_len]<;>rfl,hR⟩⟩
end Go.Proofs.YtmhnalikebkhjaaGreatDoor

namespace Go.Proofs.YtmhnalikebkhjaaGreatDoor
open Go.Proofs.YtmhnalikebkhjaaGreatDoor.X Go.Proofs.YtmhnalikebkhjaaGreatDoor.X.PH
set_option maxRecDepth 100000
def ampBad (n i o : Int):Bool:=decide (i < 0) || decide (i ≥ ((2 ^ n.toNat:Nat):Int)) || decide (o < 0) || decide (o ≥ ((2 ^ n.toNat:Nat):Int))
def ampC (c : Ct) (i o:Int):(P4 × Int) × Int:=if plainErr c ≠ 0 then ((P4.zero,0),plainErr c) else if ampBad c.wires i o=true then ((P4.zero,0),1) else if (colV c i).2 ≠ 0 then ((P4.zero,0),(colV c i).2) else (vAt (colV c i).1 o.toNat,0)
def equalC (c d : Ct):Int × Int:=if circErr c ≠ 0 then (0,circErr c) else if circErr d ≠ 0 then (0,circErr d) else if c.wires ≠ d.wires then (0,7) else if (matC c).2 ≠ 0 then (0,(matC c).2) else if (matC d).2 ≠ 0 then (0,(matC d).2) else PhaseR (matC c).1 (matC d).1
theorem matC_len (c : Ct):(matC c).1.length≤64:=by
  unfold matC
  by_cases h:plainErr c ≠ 0
  · rw[if_pos h];simp
  rw[if_neg h]
  obtain⟨n,hc⟩:=plain_ok (c:=c) (by simpa using h)
  obtain⟨p1,p2⟩:=pow6 hc.n6
  split
  · simp
  · rw[rowsP_len,hc.wires,Int.toNat_natCast]
    exact p1
set_option maxHeartbeats 1000000 in
theorem d33 (c : Ct) (i o:Int) (hfit:c.fit) (H:PH) (x:Value) (hx:CircH H x c):Cl Tryz.prog 33 [x,.int .i64 i,.int .i64 o] H emp fun r _ _=>r=ne (ampC c i o):=by
  obtain⟨gb,gc,rfl,hg⟩:=hx.sl
  refine Cl_of (pol:=polL) Γok Tryz.func33 (by kernel_rfl) rfl ?_
  conv=>whnf
  intro b3
  conv=>whnf
  intro b6
  conv=>whnf
  refine (d82 c hfit _ _ ⟨_,rfl,hg⟩).val fun Ha sa=>?_
  conv=>whnf
  refine if_intro (fun h=>?_) (fun h=>?_)
  · conv=>whnf
    rw[show ampC c i o=((P4.zero,0),plainErr c) from if_pos (by simpa using h)]
    rfl
  have h0:plainErr c=0:=by simpa using h
  obtain⟨n,hc⟩:=plain_ok h0
  obtain⟨p1,p2⟩:=pow6 hc.n6
  have n6:=hc.n6
  have hw:=hc.wires
  have esh:IntKind.i64.wrap (1*2 ^ (min c.wires.toNat IntKind.i64.bits))=((2 ^ n:Nat):Int):=by rw[hw];exact shl_nat (by omega)
  have ebad:ampBad c.wires i o=(decide (i < 0) || decide (i ≥ ((2 ^ n:Nat):Int)) || decide (o < 0) || decide (o ≥ ((2 ^ n:Nat):Int))):=by unfold ampBad;rw[hw,Int.toNat_natCast]
  have bad:ampBad c.wires i o=true→ampC c i o=((P4.zero,0),1):=fun h=>by unfold ampC;rw[h0,if_neg (by simp),if_pos h]
  conv=>whnf
  refine if_intro (fun h1=>?_) (fun h1=>?_)
  · conv=>whnf
    rw[bad (by rw[ebad,h1]<;>rfl)]
    rfl
  conv=>whnf
  refine dec_intro (by omega) ?_
  conv=>whnf
  rw[esh]
  refine if_intro (fun h2=>?_) (fun h2=>?_)
  · conv=>whnf
    rw[bad (by rw[ebad,h1,h2]<;>rfl)]
    rfl
  conv=>whnf
  refine if_intro (fun h3=>?_) (fun h3=>?_)
  · conv=>whnf
    rw[bad (by rw[ebad,h1,h2,h3]<;>rfl)]
    rfl
  conv=>whnf
  refine dec_intro (by omega) ?_
  conv=>whnf
  rw[esh]
  refine if_intro (fun h4=>?_) (fun h4=>?_)
  · conv=>whnf
    rw[bad (by rw[ebad,h1,h2,h3,h4]<;>rfl)]
    rfl
  have eg:ampC c i o=if (colV c i).2 ≠ 0 then ((P4.zero,0),(colV c i).2) else (vAt (colV c i).1 o.toNat,0):=by
    unfold ampC
    rw[h0,if_neg (by simp),ebad,h1,h2,h3,h4,if_neg (by simp)]
  have g1:=of_decide_eq_false h1
  have g2:=of_decide_eq_false h2
  have g3:=of_decide_eq_false h3
  have g4:=of_decide_eq_false h4
  obtain⟨i,rfl⟩:=natI (a:=i) (by omega)
  obtain⟨o,rfl⟩:=natI (a:=o) (by omega)
  have key:(colV c i).2=0→(colV c i).1.length=2 ^ n:=fun h=>by
    unfold colV at h ⊢
    rw[hw] at h ⊢
    rw[runC_len h]
    exact (basis_len hc.n6 (by omega)).1
  conv=>whnf
  refine (d83 c n hc i (by omega) _ _ ⟨_,rfl,hg.up sa⟩).use fun r Hb sb hr=>?_
  obtain⟨_,u,rfl,hu⟩:=hr
  obtain⟨ub,uc,rfl,_⟩:=id hu
  conv=>whnf
  refine if_intro (fun he=>?_) (fun he=>?_)
  · have he:(colV c i).2 ≠ 0:=by simpa using he
    conv=>whnf
    rw[eg,if_pos he]
    rfl
  have he:(colV c i).2=0:=by simpa using he
  have hul:=key he
  have hou:o < (colV c i).1.length:=by omega
  obtain⟨_,vb,voff,rfl,hvrd⟩:=(hu).rd (O:=emp) hou
  have evo:(colV c i).1[o]=vAt (colV c i).1 o:=by simp[vAt,List.getD_eq_getElem?_getD,hou]
  conv=>whnf
  refine dec_intro (by omega) ?_
  conv=>whnf
  refine⟨_,hvrd,?_⟩
  conv=>whnf
  rw[eg,if_neg (by rw[he];simp),Int.toNat_natCast,← evo]
  rfl
set_option maxHeartbeats 1000000 in
theorem d36 (c : Ct) (i o:Int) (hfit:c.fit) (H:PH) (x:Value) (hx:CircH H x c):Cl Tryz.prog 36 [x,.int .i64 i,.int .i64 o] H emp fun r _ _=>r=ne (ampC c i o):=by
  obtain⟨gb,gc,rfl,hg⟩:=hx.sl
  refine Cl_of (pol:=polL) Γok Tryz.func36 (by kernel_rfl) rfl ?_
  conv=>whnf
  intro b3
  conv=>whnf
  intro b6
  conv=>whnf
  refine (d86 c hfit _ _ ⟨_,rfl,hg⟩).val fun Ha sa=>?_
  conv=>whnf
  refine if_intro (fun h=>?_) (fun h=>?_)
  · conv=>whnf
    rw[show ampC c i o=((P4.zero,0),plainErr c) from if_pos (by simpa using h)]
    rfl
  have h0:plainErr c=0:=by simpa using h
  obtain⟨n,hc⟩:=plain_ok h0
  obtain⟨p1,p2⟩:=pow6 hc.n6
  have n6:=hc.n6
  have hw:=hc.wires
  have esh:IntKind.i64.wrap (1*2 ^ (min c.wires.toNat IntKind.i64.bits))=((2 ^ n:Nat):Int):=by rw[hw];exact shl_nat (by omega)
  have ebad:ampBad c.wires i o=(decide (i < 0) || decide (i ≥ ((2 ^ n:Nat):Int)) || decide (o < 0) || decide (o ≥ ((2 ^ n:Nat):Int))):=by unfold ampBad;rw[hw,Int.toNat_natCast]
  have bad:ampBad c.wires i o=true→ampC c i o=((P4.zero,0),1):=fun h=>by unfold ampC;rw[h0,if_neg (by simp),if_pos h]
  conv=>whnf
  refine if_intro (fun h1=>?_) (fun h1=>?_)
  · conv=>whnf
    rw[bad (by rw[ebad,h1]<;>rfl)]
    rfl
  conv=>whnf
  refine dec_intro (by omega) ?_
  conv=>whnf
  rw[esh]
  refine if_intro (fun h2=>?_) (fun h2=>?_)
  · conv=>whnf
    rw[bad (by rw[ebad,h1,h2]<;>rfl)]
    rfl
  conv=>whnf
  refine if_intro (fun h3=>?_) (fun h3=>?_)
  · conv=>whnf
    rw[bad (by rw[ebad,h1,h2,h3]<;>rfl)]
    rfl
  conv=>whnf
  refine dec_intro (by omega) ?_
  conv=>whnf
  rw[esh]
  refine if_intro (fun h4=>?_) (fun h4=>?_)
  · conv=>whnf
    rw[bad (by rw[ebad,h1,h2,h3,h4]<;>rfl)]
    rfl
  have eg:ampC c i o=if (colV c i).2 ≠ 0 then ((P4.zero,0),(colV c i).2) else (vAt (colV c i).1 o.toNat,0):=by
    unfold ampC
    rw[h0,if_neg (by simp),ebad,h1,h2,h3,h4,if_neg (by simp)]
  have g1:=of_decide_eq_false h1
  have g2:=of_decide_eq_false h2
  have g3:=of_decide_eq_false h3
  have g4:=of_decide_eq_false h4
  obtain⟨i,rfl⟩:=natI (a:=i) (by omega)
  obtain⟨o,rfl⟩:=natI (a:=o) (by omega)
  have key:(colV c i).2=0→(colV c i).1.length=2 ^ n:=fun h=>by
    unfold colV at h ⊢
    rw[hw] at h ⊢
    rw[runC_len h]
    exact (basis_len hc.n6 (by omega)).1
  conv=>whnf
  refine (d87 c n hc i (by omega) _ _ ⟨_,rfl,hg.up sa⟩).use fun r Hb sb hr=>?_
  obtain⟨_,u,rfl,hu⟩:=hr
  obtain⟨ub,uc,rfl,_⟩:=id hu
  conv=>whnf
  refine if_intro (fun he=>?_) (fun he=>?_)
  · have he:(colV c i).2 ≠ 0:=by simpa using he
    conv=>whnf
    rw[eg,if_pos he]
    rfl
  have he:(colV c i).2=0:=by simpa using he
  have hul:=key he
  have hou:o < (colV c i).1.length:=by omega
  obtain⟨_,vb,voff,rfl,hvrd⟩:=(hu).rd (O:=emp) hou
  have evo:(colV c i).1[o]=vAt (colV c i).1 o:=by simp[vAt,List.getD_eq_getElem?_getD,hou]
  conv=>whnf
  refine dec_intro (by omega) ?_
  conv=>whnf
  refine⟨_,hvrd,?_⟩
  conv=>whnf
  rw[eg,if_neg (by rw[he];simp),Int.toNat_natCast,← evo]
  rfl
theorem d34 (c d : Ct) (hfc:c.fit) (hfd:d.fit) (H:PH) (x y:Value) (hx:CircH H x c) (hy:CircH H y d):Cl Tryz.prog 34 [x,y] H emp fun r _ _=>r=.tuple #[.int .i64 (equalC c d).1,.int .i64 (equalC c d).2]:=by
  obtain⟨gb,gc,rfl,hg⟩:=hx.sl
  obtain⟨gb',gc',rfl,hg'⟩:=hy.sl
  refine Cl_of (pol:=polL) Γok Tryz.func34 (by kernel_rfl) rfl ?_
  conv=>whnf
  intro b2
  conv=>whnf
  intro b3
  conv=>whnf
  refine (d84 c hfc _ _ ⟨_,rfl,hg⟩).val fun Ha sa=>?_
  conv=>whnf
  refine if_intro (fun h1=>?_) (fun h1=>?_)
  · conv=>whnf
    rw[show equalC c d=(0,circErr c) from if_pos (by simpa using h1)]
  have h1:¬ circErr c ≠ 0:=by simpa using h1
  conv=>whnf
  refine (d84 d hfd _ _ ⟨_,rfl,hg'.up sa⟩).val fun Hb sb=>?_
  conv=>whnf
  refine if_intro (fun h2=>?_) (fun h2=>?_)
  · conv=>whnf
    rw[show equalC c d=(0,circErr d) by unfold equalC;rw[if_neg h1,if_pos (by simpa using h2)]]
  have h2:¬ circErr d ≠ 0:=by simpa using h2
  conv=>whnf
  refine if_intro (fun h3=>?_) (fun h3=>?_)
  · conv=>whnf
    rw[show equalC c d=(0,7) by unfold equalC;rw[if_neg h1,if_neg h2,if_pos (by simpa using h3)]]
  have h3:¬ c.wires ≠ d.wires:=by simpa using h3
  conv=>whnf
  refine (Cl.outR (d32o c hfc _ _ ⟨_,rfl,hg.up (sa.trans sb)⟩)).use fun r Hc sc hr=>?_
  obtain⟨_,u,rfl,hu⟩:=hr
  conv=>whnf
  refine if_intro (fun h4=>?_) (fun h4=>?_)
  · conv=>whnf
    rw[show equalC c d=(0,(matC c).2) by unfold equalC;rw[if_neg h1,if_neg h2,if_neg h3,if_pos (by simpa using h4)]]
  have h4:¬ (matC c).2 ≠ 0:=by simpa using h4
  conv=>whnf
  refine (Cl.outR (d32o d hfd _ _ ⟨_,rfl,hg'.up ((sa.trans sb).trans sc)⟩)).use fun r Hd sd hr=>?_
  obtain⟨_,w,rfl,hw⟩:=hr
  conv=>whnf
  refine if_intro (fun h5=>?_) (fun h5=>?_)
  · conv=>whnf
    rw[show equalC c d=(0,(matC d).2) by unfold equalC;rw[if_neg h1,if_neg h2,if_neg h3,if_neg h4,if_pos (by simpa using h5)]]
  have e:equalC c d=PhaseR (matC c).1 (matC d).1:=by unfold equalC;rw[if_neg h1,if_neg h2,if_neg h3,if_neg h4,if_neg (by simpa using h5)]
  rw[e]
  conv=>whnf
  refine (c32 (matC c).1 (matC d).1 (fun k x _=>MulR_bounds _ _) _ _ _ (hu.up sd) hw).val fun He se=>?_
  conv=>whnf
theorem d37 (c d : Ct) (hfc:c.fit) (hfd:d.fit) (H:PH) (x y:Value) (hx:CircH H x c) (hy:CircH H y d):Cl Tryz.prog 37 [x,y] H emp fun r _ _=>r=.tuple #[.int .i64 (equalC c d).1,.int .i64 (equalC c d).2]:=by
  obtain⟨gb,gc,rfl,hg⟩:=hx.sl
  obtain⟨gb',gc',rfl,hg'⟩:=hy.sl
  refine Cl_of (pol:=polL) Γok Tryz.func37 (by kernel_rfl) rfl ?_
  conv=>whnf
  intro b2
  conv=>whnf
  intro b3
  conv=>whnf
  refine (d88 c hfc _ _ ⟨_,rfl,hg⟩).val fun Ha sa=>?_
  conv=>whnf
  refine if_intro (fun h1=>?_) (fun h1=>?_)
  · conv=>whnf
    rw[show equalC c d=(0,circErr c) from if_pos (by simpa using h1)]
  have h1:¬ circErr c ≠ 0:=by simpa using h1
  conv=>whnf
  refine (d88 d hfd _ _ ⟨_,rfl,hg'.up sa⟩).val fun Hb sb=>?_
  conv=>whnf
  refine if_intro (fun h2=>?_) (fun h2=>?_)
  · conv=>whnf
    rw[show equalC c d=(0,circErr d) by unfold equalC;rw[if_neg h1,if_pos (by simpa using h2)]]
  have h2:¬ circErr d ≠ 0:=by simpa using h2
  conv=>whnf
  refine if_intro (fun h3=>?_) (fun h3=>?_)
  · conv=>whnf
    rw[show equalC c d=(0,7) by unfold equalC;rw[if_neg h1,if_neg h2,if_pos (by simpa using h3)]]
  have h3:¬ c.wires ≠ d.wires:=by simpa using h3
  conv=>whnf
  refine (Cl.outR (d35o c hfc _ _ ⟨_,rfl,hg.up (sa.trans sb)⟩)).use fun r Hc sc hr=>?_
  obtain⟨_,u,rfl,hu⟩:=hr
  conv=>whnf
  refine if_intro (fun h4=>?_) (fun h4=>?_)
  · conv=>whnf
    rw[show equalC c d=(0,(matC c).2) by unfold equalC;rw[if_neg h1,if_neg h2,if_neg h3,if_pos (by simpa using h4)]]
  have h4:¬ (matC c).2 ≠ 0:=by simpa using h4
  conv=>whnf
  refine (Cl.outR (d35o d hfd _ _ ⟨_,rfl,hg'.up ((sa.trans sb).trans sc)⟩)).use fun r Hd sd hr=>?_
  obtain⟨_,w,rfl,hw⟩:=hr
  conv=>whnf
  refine if_intro (fun h5=>?_) (fun h5=>?_)
  · conv=>whnf
    rw[show equalC c d=(0,(matC d).2) by unfold equalC;rw[if_neg h1,if_neg h2,if_neg h3,if_neg h4,if_pos (by simpa using h5)]]
  have e:equalC c d=PhaseR (matC c).1 (matC d).1:=by unfold equalC;rw[if_neg h1,if_neg h2,if_neg h3,if_neg h4,if_neg (by simpa using h5)]
  rw[e]
  conv=>whnf
  rw[← phase_eq]
  refine (c34 (matC c).1 (matC d).1 (by have:=matC_len c;omega) (by have:=matC_len d;omega) _ _ _ (hu.up sd) hw).val fun He se=>?_
  conv=>whnf
end Go.Proofs.YtmhnalikebkhjaaGreatDoor

namespace Go.Proofs.YtmhnalikebkhjaaGreatDoor
open Go.Proofs.YtmhnalikebkhjaaGreatDoor.X Go.Proofs.YtmhnalikebkhjaaGreatDoor.X.PH
set_option maxRecDepth 100000
def isM (g : Gt):Bool:=(g.kind == 13) || (g.kind == 14)
def foundN (l : List Gt):Nat:=(l.filter isM).length
theorem foundN_snoc {l : List Gt} {i:Nat} (hi:i < l.length):foundN (l.take (i+1))=foundN (l.take i)+if isM l[i]=true then 1 else 0:=by
  unfold foundN
  rw[List.take_succ_eq_append_getElem hi,List.filter_append,List.length_append]
  by_cases h:isM l[i]=true
  · simp[h]
  · simp[h]
theorem foundN_le (l : List Gt) (i:Nat):foundN (l.take i)≤i:=by
  unfold foundN
  refine Nat.le_trans (List.length_filter_le _ _) ?_
  rw[List.length_take]
  omega
def beginErr (c : Ct) (v:Vec):Int:=if circErr c ≠ 0 then circErr c else if stErr v ≠ 0 then stErr v else if sizeI v.length ≠ c.wires then 7 else if foundN c.gates > 8 then 2 else 0
theorem d57 (c : Ct) (hc:c.fit) (H:PH) (x:Value) (hx:CircH H x c):Cl Tryz.prog 57 [x] H emp fun r _ _=>r=.int .i64 (foundN c.gates):=by
  obtain⟨gb,gc,rfl,hg⟩:=hx.sl
  have hlen:=hc.1
  refine Cl_of (pol:=polL) Γok Tryz.func57 (by kernel_rfl) rfl ?_
  conv=>whnf
  intro b1
  conv=>whnf
  refine W_loop (pol:=polL) Γok (Nat × PH) (fun i=>i.1≤c.gates.length∧Sub H i.2) (fun i=>c.gates.length - i.1) (fun i=>[(3,.v (.int .i64 (foundN (c.gates.take i.1)))),(4,.v (.int .i64 i.1))]) (fun _=>[]) (fun i=>i.2) (fun _=>emp) ⟨(0,H),⟨by simp,Sub.refl _⟩,rfl,rfl,?_⟩ ?_
  · conv=>whnf
    repeat (refine⟨rfl,?_⟩;conv=>whnf)
    exact trivial
  rintro ⟨i,Hi⟩ ⟨h1i,hsi⟩
  dsimp only at h1i hsi
  conv=>whnf
  refine if_intro (fun hci=>?_) (fun hci=>?_)
  · have hii:i < c.gates.length:=by
      have:=of_decide_eq_true hci
      omega
    have hle:=foundN_le c.gates i
    obtain⟨b,off,w,wb,wc,rfl,hw,hrd,hwe⟩:=hg.rd hii
    subst hw
    have hb:=hrd Hi emp hsi
    have hb0:Rd Hi emp ⟨b,off+i*4+0,none⟩ 1 [.int .i64 c.gates[i].kind]:=Rd_part hb 0 1 (by omega) rfl
    conv=>whnf
    refine dec_intro (by omega) ?_
    conv=>whnf
    refine⟨_,hb0,?_⟩
    conv=>whnf
    refine if_intro (fun h13=>?_) (fun h13=>?_)
    · conv=>whnf
      rw[wrap_id (n:=(foundN (c.gates.take i):Int)+1) (by omega) (by omega)]
      refine⟨(i+1,Hi),⟨by dsimp only;omega,hsi⟩,by dsimp only;omega,?_⟩
      refine⟨rfl,rfl,?_⟩
      dsimp only
      rw[foundN_snoc hii,show isM c.gates[i]=true by unfold isM;rw[h13]<;>rfl,if_pos rfl]
      conv=>whnf
      repeat (refine⟨rfl,?_⟩;conv=>whnf)
      refine⟨by show En.v (.int .i64 (IntKind.i64.wrap (i+1)))=_;rw[wrap_id (by omega) (by omega)]<;>rfl,?_⟩
      conv=>whnf
      repeat (refine⟨rfl,?_⟩;conv=>whnf)
      exact trivial
    conv=>whnf
    refine dec_intro (by omega) ?_
    conv=>whnf
    refine⟨_,hb0,?_⟩
    conv=>whnf
    refine if_intro (fun h14=>?_) (fun h14=>?_)
    · conv=>whnf
      rw[wrap_id (n:=(foundN (c.gates.take i):Int)+1) (by omega) (by omega)]
      refine⟨(i+1,Hi),⟨by dsimp only;omega,hsi⟩,by dsimp only;omega,?_⟩
      refine⟨rfl,rfl,?_⟩
      dsimp only
      rw[foundN_snoc hii,show isM c.gates[i]=true by unfold isM;rw[h14,Bool.or_true],if_pos rfl]
      conv=>whnf
      repeat (refine⟨rfl,?_⟩;conv=>whnf)
      refine⟨by show En.v (.int .i64 (IntKind.i64.wrap (i+1)))=_;rw[wrap_id (by omega) (by omega)]<;>rfl,?_⟩
      conv=>whnf
      repeat (refine⟨rfl,?_⟩;conv=>whnf)
      exact trivial
    conv=>whnf
    refine⟨(i+1,Hi),⟨by dsimp only;omega,hsi⟩,by dsimp only;omega,?_⟩
    refine⟨rfl,rfl,?_⟩
    dsimp only
    rw[foundN_snoc hii,show isM c.gates[i]=false by unfold isM;rw[h13,h14]<;>rfl,if_neg (by simp),Nat.add_zero]
    conv=>whnf
    repeat (refine⟨rfl,?_⟩;conv=>whnf)
    refine⟨by show En.v (.int .i64 (IntKind.i64.wrap (i+1)))=_;rw[wrap_id (by omega) (by omega)]<;>rfl,?_⟩
    conv=>whnf
    repeat (refine⟨rfl,?_⟩;conv=>whnf)
    exact trivial
  have hii:i=c.gates.length:=by
    have:=of_decide_eq_false hci
    omega
  subst hii
  conv=>whnf
  rw[List.take_length]
theorem d54 (c : Ct) (v:Vec) (hc:c.fit) (hv:v.length < 9223372036854775808) (H:PH) (x y:Value) (hx:CircH H x c) (hy:NumH H y v):Cl Tryz.prog 54 [x,y] H emp fun r _ _=>r=.int .i64 (beginErr c v):=by
  obtain⟨gb,gc,rfl,hg⟩:=hx.sl
  obtain⟨yb,yc,rfl,_⟩:=id hy
  refine Cl_of (pol:=polL) Γok Tryz.func54 (by kernel_rfl) rfl ?_
  conv=>whnf
  intro b2
  conv=>whnf
  refine (d84 c hc _ _ ⟨_,rfl,hg⟩).val fun Ha sa=>?_
  conv=>whnf
  refine if_intro (fun h1=>?_) (fun h1=>?_)
  · conv=>whnf
    rw[show beginErr c v=circErr c from if_pos (by simpa using h1)]
  have h1:¬ circErr c ≠ 0:=by simpa using h1
  conv=>whnf
  refine (d49 v hv _ _ (NumH.up hy sa)).val fun Hb sb=>?_
  conv=>whnf
  refine if_intro (fun h2=>?_) (fun h2=>?_)
  · conv=>whnf
    rw[show beginErr c v=stErr v by unfold beginErr;rw[if_neg h1,if_pos (by simpa using h2)]]
  have h2:¬ stErr v ≠ 0:=by simpa using h2
  conv=>whnf
  refine W_draw (pol:=polL) Γok mixes [(0,.pendO),(1,.pendO),(3,.pend),(4,.pend),(2,.lock),(5,.pendO)] 26 (by kernel_rfl) rfl ?_
  conv=>whnf
  refine (d72 v.length _).val fun Hc sc=>?_
  conv=>whnf
  refine if_intro (fun h3=>?_) (fun h3=>?_)
  · conv=>whnf
    rw[show beginErr c v=7 by unfold beginErr;rw[if_neg h1,if_neg h2,if_pos (by simpa using h3)]]
  have h3:¬ sizeI v.length ≠ c.wires:=by simpa using h3
  conv=>whnf
  refine (d57 c hc _ _ ⟨_,rfl,hg.up ((sa.trans sb).trans sc)⟩).val fun Hd sd=>?_
  conv=>whnf
  refine if_intro (fun h4=>?_) (fun h4=>?_)
  · conv=>whnf
    have:=of_decide_eq_true h4
    rw[show beginErr c v=2 by unfold beginErr;rw[if_neg h1,if_neg h2,if_neg h3,if_pos (by omega)]]
  conv=>whnf
  have:=of_decide_eq_false h4
  rw[show beginErr c v=0 by unfold beginErr;rw[if_neg h1,if_neg h2,if_neg h3,if_neg (by omega)]]
def deadB (v : Vec):Bool:=v.all fun x=>eqN (formR x.1 x.2) (P4.zero,0)
theorem d59 (v : Vec) (hv:v.length < 9223372036854775808) (hr:∀ x∈v,checkF x.1 x.2=0) (H:PH) (x:Value) (hx:NumH H x v):Cl Tryz.prog 59 [x] H emp fun r _ _=>r=.bool (deadB v):=by
  obtain⟨xb,xc,rfl,_⟩:=id hx
  refine Cl_of (pol:=polL) Γok Tryz.func59 (by kernel_rfl) rfl ?_
  conv=>whnf
  refine W_loop (pol:=polL) Γok (Nat × PH) (fun i=>i.1≤v.length∧Sub H i.2∧(v.take i.1).all (fun x=>eqN (formR x.1 x.2) (P4.zero,0))=true) (fun i=>v.length - i.1) (fun i=>[(3,.v (.int .i64 i.1))]) (fun _=>[]) (fun i=>i.2) (fun _=>emp) ⟨(0,H),⟨by simp,Sub.refl _,rfl⟩,rfl,rfl,?_⟩ ?_
  · conv=>whnf
    repeat (refine⟨rfl,?_⟩;conv=>whnf)
    exact trivial
  rintro ⟨i,Hi⟩ ⟨h1i,hsi,hpi⟩
  dsimp only at h1i hsi hpi
  conv=>whnf
  refine if_intro (fun hci=>?_) (fun hci=>?_)
  · have hii:i < v.length:=by
      have:=of_decide_eq_true hci
      omega
    conv=>whnf
    obtain⟨_,b,off,rfl,hrd⟩:=(NumH.up hx hsi).rd (O:=emp) hii
    conv=>whnf
    refine dec_intro (by omega) ?_
    conv=>whnf
    refine⟨_,hrd,?_⟩
    conv=>whnf
    have hk:=right_in (hr v[i] (List.getElem_mem hii))
    refine (c72 v[i].1 v[i].2 (by omega) (by omega) _).val fun H1 s1=>?_
    conv=>whnf
    refine if_intro (fun h=>?_) (fun h=>?_)
    · conv=>whnf
      have h':eqN (formR v[i].1 v[i].2) (P4.zero,0)=false:=by
        have:(!eqN (formR v[i].1 v[i].2) (P4.zero,0))=true:=h
        simpa using this
      rw[show deadB v=false from all_noG (l:=v) (p:=fun x:P4 × Int=>eqN (formR x.1 x.2) (P4.zero,0)) hii h']
    have h':eqN (formR v[i].1 v[i].2) (P4.zero,0)=true:=by
      have:(!eqN (formR v[i].1 v[i].2) (P4.zero,0))=false:=h
      simpa using this
    conv=>whnf
    refine⟨(i+1,H1),⟨by dsimp only;omega,hsi.trans s1,by rw[all_takeG hii,hpi,h']<;>rfl⟩,by dsimp only;omega,?_⟩
    refine⟨rfl,rfl,?_⟩
    conv=>whnf
    repeat (refine⟨rfl,?_⟩;conv=>whnf)
    refine⟨by show En.v (.int .i64 (IntKind.i64.wrap (i+1)))=_;rw[wrap_id (by omega) (by omega)]<;>rfl,?_⟩
    conv=>whnf
    repeat (refine⟨rfl,?_⟩;conv=>whnf)
    exact trivial
  have hii:i=v.length:=by
    have:=of_decide_eq_false hci
    omega
  subst hii
  dsimp only
  conv=>whnf
  rw[List.take_length] at hpi
  rw[show deadB v=true from hpi]
theorem d56 (v : Vec) (hv:v.length≤100000) (hr:∀ x∈v,checkF x.1 x.2=0) (H:PH) (x:Value) (hx:NumH H x v):Cl Tryz.prog 56 [x] H emp fun r H' _=>NumH H' r (leastV v):=by
  obtain⟨xb,xc,rfl,_⟩:=id hx
  refine Cl_of (pol:=polL) Γok Tryz.func56 (by kernel_rfl) rfl ?_
  conv=>whnf
  refine (c154' v _ _ hx hv (fun y hy=>by have:=right_in (hr y hy);omega)).use fun r Ha sa hr2=>?_
  obtain⟨_,hr2⟩:=hr2
  obtain⟨rb,rc,rfl,_⟩:=id hr2
  conv=>whnf
  have e:formsR v=leastV v:=by
    unfold formsR leastV
    apply List.map_congr_left
    intro y hy
    rw[LeastF_eq (hr y hy)]
  rw[← e]
  exact hr2
end Go.Proofs.YtmhnalikebkhjaaGreatDoor

namespace Go.Proofs.YtmhnalikebkhjaaGreatDoor
open Go.Proofs.YtmhnalikebkhjaaGreatDoor.X Go.Proofs.YtmhnalikebkhjaaGreatDoor.X.PH
set_option maxRecDepth 100000
structure Br where
  outs:List Int
  bits:Int
  state:Vec
def bitB (bits k : Int):Bool:=andI (shrI bits k) 1 == 1
def setBR (bits k o : Int):Int:=IntKind.i64.wrap ((if bitB bits k=true then IntKind.i64.wrap (bits - shlI 1 k) else bits)+shlI o k)
def xGate (g : Gt):Gt:=⟨1,g.ws,0,0⟩
def wire0 (g : Gt):Nat:=(g.ws.getD 0 0).toNat
def onB (g : Gt) (bits:Int):Bool:=(g.cond == 0) || bitB bits (g.cond - 1)
def nextB (b : Br) (g:Gt) (o:Int):Br × Int:=
  if g.kind=13 then (⟨b.outs++[o],setBR b.bits g.bit o,keptV b.state (wire0 g) o⟩,0)
  else if g.kind=14 then (if o=1 then (⟨b.outs++[o],b.bits,(doneG (keptV b.state (wire0 g) o) (xGate g)).1⟩,(doneG (keptV b.state (wire0 g) o) (xGate g)).2) else (⟨b.outs++[o],b.bits,keptV b.state (wire0 g) o⟩,0))
  else if onB g b.bits=true then (⟨b.outs,b.bits,(doneG b.state g).1⟩,(doneG b.state g).2) else (b,0)
structure RGate (g : Gt) (n bits:Nat):Prop where
  n6:n≤6
  b8:bits≤8
  k1:1≤g.kind
  k2:g.kind≤14
  len:(g.ws.length:Int)=arityF g.kind
  inA:g.ws.all (inW n)=true
  tw:twiceF g.ws=false
  bit:g.kind=13→0≤g.bit∧g.bit < bits
  cond:0≤g.cond∧g.cond≤bits
  no:13≤g.kind→g.cond=0
theorem rgate_of {g : Gt} {wires bits:Int} {n m:Nat} (hn:n≤6) (hm:m≤8) (hw:wires=n) (hb:bits=m) (h:gateErr g wires bits=0):RGate g n m:=by
  subst hw hb
  unfold gateErr at h
  by_cases h1:arityF g.kind=0
  · rw[if_pos h1] at h;cases h
  rw[if_neg h1] at h
  by_cases h2:(g.ws.length:Int) ≠ arityF g.kind
  · rw[if_pos h2] at h;cases h
  rw[if_neg h2] at h
  by_cases h3:g.ws.all (inW n)=false
  · rw[if_pos h3] at h;cases h
  rw[if_neg h3] at h
  by_cases h4:twiceF g.ws=true
  · rw[if_pos h4] at h;cases h
  rw[if_neg h4] at h
  by_cases h5:(offF g.cond 0 m || (g.kind == 13 && offF g.bit 0 (m - 1)))=true
  · rw[if_pos h5] at h;cases h
  rw[if_neg h5] at h
  by_cases h6:((decide (g.kind ≥ 13) && g.cond != 0) || (g.kind != 13 && g.bit != 0))=true
  · rw[if_pos h6] at h;cases h
  have hk:=kind_le h1
  unfold offF at h5
  simp at h5 h6
  refine⟨hn,hm,hk.1,hk.2,by simpa using h2,by simpa using h3,by simpa using h4,fun h=>?_,by omega,fun h=>h6.1 h⟩
  have:=h5.2 h
  omega
theorem RGate.plain {g : Gt} {n bits:Nat} (h:RGate g n bits) (h1:g.kind ≠ 13) (h2:g.kind ≠ 14):GateOK g n:=⟨h.n6,h.k1,by have:=h.k2;omega,h.len,h.inA,h.tw⟩
theorem RGate.one {g : Gt} {n bits:Nat} (h:RGate g n bits) (hk:g.kind=13∨g.kind=14):g.ws.length=1∧wire0 g < n∧(∀ hi:0 < g.ws.length,g.ws[0]=(wire0 g:Int))∧GateOK (xGate g) n:=by
  have ha:arityF g.kind=1:=by rcases hk with e | e<;>rw[e]<;>rfl
  have hl:g.ws.length=1:=by have:=h.len;rw[ha] at this;omega
  have h0:=List.all_eq_true.1 h.inA g.ws[0] (List.getElem_mem (by omega))
  unfold inW at h0
  simp at h0
  have e:g.ws.getD 0 0=g.ws[0]:=by rw[List.getD_eq_getElem?_getD,List.getElem?_eq_getElem (by omega)]<;>rfl
  refine⟨hl,by unfold wire0;rw[e];omega,fun _=>by unfold wire0;rw[e];omega,⟨h.n6,show (1:Int)≤1 by decide,show (1:Int)≤12 by decide,?_,h.inA,h.tw⟩⟩
  show (g.ws.length:Int)=arityF 1
  rw[hl]
  rfl
theorem kept_good {v : Vec} (hr:∀ x∈v,checkF x.1 x.2=0) (w:Nat) (o:Int):∀ x∈keptV v w o,IsL x:=by
  intro y hy
  obtain⟨i,hi,rfl⟩:=List.mem_map.1 hy
  have hi:=List.mem_range.1 hi
  unfold kept1
  split
  · have ev:vAt v i=v[i]:=by simp[vAt,List.getD_eq_getElem?_getD,hi]
    rw[ev,LeastF_eq (hr _ (List.getElem_mem hi))]
    exact form_L (hr _ (List.getElem_mem hi))
  · exact zero_L
theorem IntsO.start (H : PH) (l:List Int) (hlen:l.length≤100000) {O:PH} {b:Nat} {s:Value} (hO:O b=some (.cells ⟨[]⟩ 3 (0,0))) (hs:IntsC H s l) {by_:Nat} (hby:by_≤100) {z:List Value} (hz:z.length=1) {K:Value→PH→Prop}
    (k:∀ v O',IntsO O' v l→K v O'):appendK H O 3 1 by_ z (.slice (some ⟨b,0,none⟩) 0 0) s K:=by
  obtain⟨base,cap,rfl,hc,hv'⟩:=hs
  obtain⟨_,_,e,hv'⟩:=hv'
  cases e
  have hfl:=flat_oneI l
  refine append_many (xs:=[]) (ys:=l.map fun x=>[.int .i64 x]) ⟨by simp,.inr ⟨b,0,[],rfl,by rw[hO]<;>rfl,Nat.le_refl _,by simp⟩⟩ hz (fun y hy=>?_) ?_ ⟨base,cap,by simp,fun hb=>?_,fun a ha hpos=>?_⟩ ?_ fun v O2 hO2 hfr=>?_
  · obtain⟨x,_,rfl⟩:=List.mem_map.1 hy
    rfl
  · rw[hfl]
    intro v hv
    obtain⟨x,_,rfl⟩:=List.mem_map.1 hv
    rfl
  · rcases hv' with⟨h',_⟩ | ⟨_,_,_,_,_,h',_⟩
    · have:l=[]:=by simpa using h'
      rw[this]<;>rfl
    · rw[hb] at h';cases h'
  · rcases hv' with⟨h',_⟩ | ⟨b1,off1,c,t,fr,h1,h2,h3⟩
    · simp at hpos;omega
    · rw[ha] at h1;cases h1
      refine⟨rfl,by rw[hfl];simp,c,t,fr,.inl h2,?_⟩
      rw[hfl]
      simpa using h3
  · simp
    refine Nat.le_trans (Nat.mul_le_mul hlen (Nat.add_le_add_right hby 1)) (by decide)
  · rw[List.nil_append] at hO2
    exact k v O2 hO2
def BrH (H : PH) (v:Value) (b:Br):Prop:=∃ ov sv,v=.agg ⟨[ov,.int .i64 b.bits,sv]⟩∧IntsC H ov b.outs∧NumH H sv b.state
theorem BrH.up {H H' : PH} {v:Value} {b:Br} (h:BrH H v b) (hs:Sub H H'):BrH H' v b:=by
  obtain⟨ov,sv,e,h1,h2⟩:=h
  exact⟨ov,sv,e,h1.up hs,NumH.up h2 hs⟩
def BrO (H M : PH) (r:Value) (x:Br × Int):Prop:=∃ ov sv,r=.tuple #[.agg ⟨[ov,.int .i64 x.1.bits,sv]⟩,.int .i64 x.2]∧IntsO M ov x.1.outs∧NumH H sv x.1.state
set_option maxHeartbeats 4000000 in
theorem d58o (b : Br) (g:Gt) (o:Int) (n bits:Nat) (hg:RGate g n bits) (ho:o=0∨o=1) (hl:b.state.length=2 ^ n) (hr:∀ x∈b.state,checkF x.1 x.2=0) (hout:b.outs.length≤1000) (H:PH) (x w:Value) (hx:BrH H x b) (hw:IntsC H w g.ws) :
    Cl Tryz.prog 58 [x,gv g w,.int .i64 o] H emp fun r H' M'=>BrO H' M' r (nextB b g o):=by
  obtain⟨ov,sv,rfl,hov,hsv⟩:=hx
  obtain⟨ovb,ovc,rfl,hovc,hovh⟩:=id hov
  obtain⟨svb,svc,rfl,_⟩:=id hsv
  obtain⟨wb,wc,rfl,hwc,hwh⟩:=id hw
  obtain⟨p1,p2⟩:=pow6 hg.n6
  have hn6:=hg.n6
  have hb8:=hg.b8
  refine Cl_of (pol:=(fun | 3=>.imm | 10=>.own | 35=>.imm | 76=>.imm | _=>.loc)) Γok Tryz.func58 (by kernel_rfl) rfl ?_
  conv=>whnf
  intro b3 hb3 hO3
  have s3:=sub_ins H (.cells ⟨[.slice ovb b.outs.length ovc,.int .i64 b.bits,.slice svb b.state.length svc]⟩ 39 (0,0)) hb3
  replace hov:=hov.up s3
  replace hsv:=NumH.up hsv s3
  replace hw:=hw.up s3
  replace hwh:=IntsH.up hwh s3
  conv=>whnf
  intro b4
  conv=>whnf
  intro b6
  conv=>whnf
  refine W_draw (pol:=(fun | 3=>.imm | 10=>.own | 35=>.imm | 76=>.imm | _=>.loc)) Γok mixes [(1,.pendO),(2,.pendO),(4,.pendH),(5,.pendH),(6,.pendH),(7,.pendH),(0,.lock),(3,.lock),(8,.pendO),(9,.late),(10,.lock)] 115 (by kernel_rfl) rfl ?_
  conv=>whnf
  intro b10 hb10 hO10
  conv=>whnf
  refine IntsO.start _ b.outs (by omega) (ins_same _ _ _) hov (by decide) rfl fun ov1 O1 hovo=>?_
  obtain⟨ov1b,ov1n,ov1c,rfl⟩:=OwnS.sl hovo
  conv=>whnf
  intro b8
  conv=>whnf
  refine if_intro (fun h13=>?_) (fun h13=>?_)
  · have hk:g.kind=13:=by simpa using h13
    obtain⟨w1,w2,w3,w4⟩:=hg.one (.inl hk)
    obtain⟨bit0,bit1⟩:=hg.bit hk
    obtain⟨bb,off,rfl,hrd⟩:=hwh.rd (i:=0) (by omega)
    rw[w3 (by omega)] at hrd
    have en:nextB b g o=(⟨b.outs++[o],setBR b.bits g.bit o,keptV b.state (wire0 g) o⟩,0):=if_pos hk
    rw[en]
    conv=>whnf
    refine W_draw (pol:=(fun | 3=>.imm | 10=>.own | 35=>.imm | 76=>.imm | _=>.loc)) Γok mixes [(0,.pendO),(1,.pendO),(2,.pendO),(3,.pendO),(4,.pendO),(5,.pendO),(6,.pendO),(7,.lock),(8,.pendO),(9,.lock)] 115 (by kernel_rfl) rfl ?_
    conv=>whnf
    refine dec_intro (by omega) ?_
    conv=>whnf
    refine⟨_,hrd O1,?_⟩
    conv=>whnf
    refine ((d74o b.state (wire0 g) o (by omega) hr (by omega) _ _ hsv).repart (Q':=fun r H' _=>NumH H' r (keptV b.state (wire0 g) o)) fun _ _ _ _ hd h=>NumO.pub hd h).use fun u Ha sa hu=>?_
    obtain⟨_,hu⟩:=hu
    obtain⟨ub,uc,rfl,_⟩:=id hu
    conv=>whnf
    intro b7 hb7 hO7
    conv=>whnf
    have s7:=sub_ins Ha (.cells ⟨[.int .i64 o]⟩ 3 (0,0)) hb7
    refine append_one (xs:=b.outs.map fun x=>[Value.int .i64 x]) (y:=[.int .i64 o]) hovo rfl rfl (by intro v hv;simp at hv;subst hv;rfl) ⟨_,_,_,rfl,rfl,Rd.whole (ins_same _ _ _)⟩ ?_ fun ov2 O4 hO4 _=>?_
    · simp
      omega
    have hO4':IntsO O4 ov2 (b.outs++[o]):=by
      unfold IntsO
      rw[List.map_append]
      exact hO4
    obtain⟨ov2b,ov2n,ov2c,rfl⟩:=OwnS.sl hO4'
    conv=>whnf
    refine dec_intro (by omega) ?_
    conv=>whnf
    refine if_intro (fun hbit=>?_) (fun hbit=>?_)
    · have hbit':bitB b.bits g.bit=true:=hbit
      conv=>whnf
      refine W_draw (pol:=(fun | 3=>.imm | 10=>.own | 35=>.imm | 76=>.imm | _=>.loc)) Γok mixes [(0,.pendO),(1,.pendO),(2,.pendO),(3,.pendO),(4,.pendO),(5,.pendO),(6,.pendO),(7,.lock)] 115 (by kernel_rfl) rfl ?_
      conv=>whnf
      refine dec_intro (by omega) ?_
      conv=>whnf
      refine W_draw (pol:=(fun | 3=>.imm | 10=>.own | 35=>.imm | 76=>.imm | _=>.loc)) Γok mixes [(0,.pendO),(1,.pendO),(2,.pendO),(3,.pendO),(4,.pendO),(5,.pendO),(6,.pendO),(7,.pendO),(8,.lock)] 115 (by kernel_rfl) rfl ?_
      conv=>whnf
      refine dec_intro (by omega) ?_
      conv=>whnf
      refine⟨_,_,?_,hO4',NumH.up hu s7⟩
      unfold setBR
      rw[if_pos hbit']
      rfl
    · have hbit':¬ bitB b.bits g.bit=true:=by
        have:bitB b.bits g.bit=false:=hbit
        rw[this]
        simp
      conv=>whnf
      refine W_draw (pol:=(fun | 3=>.imm | 10=>.own | 35=>.imm | 76=>.imm | _=>.loc)) Γok mixes [(0,.pendO),(1,.pendO),(2,.pendO),(3,.pendO),(4,.pendO),(5,.pendO),(6,.pendO),(7,.pendO),(8,.lock)] 115 (by kernel_rfl) rfl ?_
      conv=>whnf
      refine dec_intro (by omega) ?_
      conv=>whnf
      refine⟨_,_,?_,hO4',NumH.up hu s7⟩
      unfold setBR
      rw[if_neg hbit']
      rfl
  have hk13:g.kind ≠ 13:=by simpa using h13
  conv=>whnf
  refine if_intro (fun h14=>?_) (fun h14=>?_)
  · have hk:g.kind=14:=by simpa using h14
    obtain⟨w1,w2,w3,w4⟩:=hg.one (.inr hk)
    obtain⟨bb,off,rfl,hrd⟩:=hwh.rd (i:=0) (by omega)
    rw[w3 (by omega)] at hrd
    have en:nextB b g o=if o=1 then (⟨b.outs++[o],b.bits,(doneG (keptV b.state (wire0 g) o) (xGate g)).1⟩,(doneG (keptV b.state (wire0 g) o) (xGate g)).2) else (⟨b.outs++[o],b.bits,keptV b.state (wire0 g) o⟩,0):=by
      unfold nextB
      rw[if_neg hk13,if_pos hk]
    rw[en]
    conv=>whnf
    refine W_draw (pol:=(fun | 3=>.imm | 10=>.own | 35=>.imm | 76=>.imm | _=>.loc)) Γok mixes [(0,.pendO),(1,.pendO),(2,.pendO),(3,.pendO),(4,.pendO),(5,.pendO),(6,.pendO),(7,.lock),(8,.pendO),(9,.lock)] 115 (by kernel_rfl) rfl ?_
    conv=>whnf
    refine dec_intro (by omega) ?_
    conv=>whnf
    refine⟨_,hrd O1,?_⟩
    conv=>whnf
    refine ((d74o b.state (wire0 g) o (by omega) hr (by omega) _ _ hsv).repart (Q':=fun r H' _=>NumH H' r (keptV b.state (wire0 g) o)) fun _ _ _ _ hd h=>NumO.pub hd h).use fun u Ha sa hu=>?_
    obtain⟨_,hu⟩:=hu
    obtain⟨ub,uc,rfl,_⟩:=id hu
    conv=>whnf
    intro b7 hb7 hO7
    conv=>whnf
    have s7:=sub_ins Ha (.cells ⟨[.int .i64 o]⟩ 3 (0,0)) hb7
    refine append_one (xs:=b.outs.map fun x=>[Value.int .i64 x]) (y:=[.int .i64 o]) hovo rfl rfl (by intro v hv;simp at hv;subst hv;rfl) ⟨_,_,_,rfl,rfl,Rd.whole (ins_same _ _ _)⟩ ?_ fun ov2 O4 hO4 _=>?_
    · simp
      omega
    have hO4':IntsO O4 ov2 (b.outs++[o]):=by
      unfold IntsO
      rw[List.map_append]
      exact hO4
    obtain⟨ov2b,ov2n,ov2c,rfl⟩:=OwnS.sl hO4'
    conv=>whnf
    refine if_intro (fun ho1=>?_) (fun ho1=>?_)
    · have ho1:o=1:=by simpa using ho1
      rw[if_pos ho1]
      conv=>whnf
      refine (d73 (keptV b.state (wire0 g) o) (xGate g) n w4 (by rw[kept_len];exact hl) _ _ _ (NumH.up hu s7) (hw.up (sa.trans s7))).use fun r Hb sb hr2=>?_
      obtain⟨_,u2,rfl,hu2⟩:=hr2
      obtain⟨u2b,u2c,rfl,_⟩:=id hu2
      conv=>whnf
      exact⟨_,_,rfl,hO4',hu2⟩
    · have ho1:¬ o=1:=by simpa using ho1
      rw[if_neg ho1]
      conv=>whnf
      exact⟨_,_,rfl,hO4',NumH.up hu s7⟩
  have hk14:g.kind ≠ 14:=by simpa using h14
  have hgk:=hg.plain hk13 hk14
  have en:nextB b g o=if onB g b.bits=true then (⟨b.outs,b.bits,(doneG b.state g).1⟩,(doneG b.state g).2) else (b,0):=by
    unfold nextB
    rw[if_neg hk13,if_neg hk14]
  rw[en]
  obtain⟨c0,c1⟩:=hg.cond
  conv=>whnf
  refine if_intro (fun hc0=>?_) (fun hc0=>?_)
  · rw[if_pos (by unfold onB;rw[hc0]<;>rfl)]
    conv=>whnf
    refine (d73 b.state g n hgk hl _ _ _ hsv hw).use fun r Hb sb hr2=>?_
    obtain⟨_,u2,rfl,hu2⟩:=hr2
    obtain⟨u2b,u2c,rfl,_⟩:=id hu2
    conv=>whnf
    exact⟨_,_,rfl,hovo,hu2⟩
  have hcn:g.cond ≠ 0:=by simpa using hc0
  conv=>whnf
  rw[wrap_id (n:=g.cond - 1) (by omega) (by omega)]
  refine dec_intro (by omega) ?_
  conv=>whnf
  refine if_intro (fun hb=>?_) (fun hb=>?_)
  · have hb':bitB b.bits (g.cond - 1)=true:=hb
    rw[if_pos (by unfold onB;rw[hc0,hb']<;>rfl)]
    conv=>whnf
    refine (d73 b.state g n hgk hl _ _ _ hsv hw).use fun r Hb sb hr2=>?_
    obtain⟨_,u2,rfl,hu2⟩:=hr2
    obtain⟨u2b,u2c,rfl,_⟩:=id hu2
    conv=>whnf
    exact⟨_,_,rfl,hovo,hu2⟩
  · have hb':bitB b.bits (g.cond - 1)=false:=hb
    rw[if_neg (by unfold onB;rw[hc0,hb'];simp)]
    conv=>whnf
    exact⟨_,_,rfl,hovo,hsv⟩
def OutB (H : PH) (r:Value) (x:Br × Int):Prop:=∃ u,r=.tuple #[u,.int .i64 x.2]∧BrH H u x.1
theorem d58 (b : Br) (g:Gt) (o:Int) (n bits:Nat) (hg:RGate g n bits) (ho:o=0∨o=1) (hl:b.state.length=2 ^ n) (hr:∀ x∈b.state,checkF x.1 x.2=0) (hout:b.outs.length≤1000) (H:PH) (x w:Value) (hx:BrH H x b) (hw:IntsC H w g.ws) :
    Cl Tryz.prog 58 [x,gv g w,.int .i64 o] H emp fun r H' _=>OutB H' r (nextB b g o):=
  (d58o b g o n bits hg ho hl hr hout H x w hx hw).repart fun _ _ _ _ hd h=>by
    obtain⟨ov,sv,e,h1,h2⟩:=h
    obtain⟨H',M',rp,h3⟩:=IntsO.pubC hd h1
    exact⟨H',M',rp,_,e,ov,sv,rfl,h3,NumH.up h2 rp.sub⟩
end Go.Proofs.YtmhnalikebkhjaaGreatDoor

namespace Go.Proofs.YtmhnalikebkhjaaGreatDoor
open Go.Proofs.YtmhnalikebkhjaaGreatDoor.X Go.Proofs.YtmhnalikebkhjaaGreatDoor.X.PH
set_option maxRecDepth 100000
def subR (run : Br→List Br × Int) (b:Br) (g:Gt) (o:Int):List Br × Int:=if (nextB b g o).2 ≠ 0 then ([],(nextB b g o).2) else if deadB (nextB b g o).1.state=true then ([],0) else run (nextB b g o).1
def runB : List Gt→Br→List Br × Int
  | [],b=>if deadB b.state=true then ([],0) else ([b],0)
  | g::gs,b=>
    if isM g=false then (if (nextB b g 0).2 ≠ 0 then ([],(nextB b g 0).2) else runB gs (nextB b g 0).1)
    else if (subR (runB gs) b g 0).2 ≠ 0 then ([],(subR (runB gs) b g 0).2) else if (subR (runB gs) b g 1).2 ≠ 0 then ([],(subR (runB gs) b g 1).2) else ((subR (runB gs) b g 0).1++(subR (runB gs) b g 1).1,0)
theorem runB_step {gs : List Gt} {i:Nat} (hi:i < gs.length) (b:Br):runB (gs.drop i) b =
    if isM gs[i]=false then (if (nextB b gs[i] 0).2 ≠ 0 then ([],(nextB b gs[i] 0).2) else runB (gs.drop (i+1)) (nextB b gs[i] 0).1)
    else if (subR (runB (gs.drop (i+1))) b gs[i] 0).2 ≠ 0 then ([],(subR (runB (gs.drop (i+1))) b gs[i] 0).2) else if (subR (runB (gs.drop (i+1))) b gs[i] 1).2 ≠ 0 then ([],(subR (runB (gs.drop (i+1))) b gs[i] 1).2) else ((subR (runB (gs.drop (i+1))) b gs[i] 0).1++(subR (runB (gs.drop (i+1))) b gs[i] 1).1,0):=by
  rw[List.drop_eq_getElem_cons hi]
  rfl
theorem foundN_cons (g : Gt) (gs:List Gt):foundN (g::gs)=(if isM g=true then 1 else 0)+foundN gs:=by
  unfold foundN
  by_cases h:isM g=true
  · simp[h];omega
  · simp[h]
theorem runB_len : ∀ (gs:List Gt) (b:Br),(runB gs b).1.length≤2 ^ foundN gs
  | [],b=>by
    unfold runB
    split<;>simp[foundN]
  | g::gs,b=>by
    have hs:∀ o,(subR (runB gs) b g o).1.length≤2 ^ foundN gs:=fun o=>by
      unfold subR
      split
      · simp
      split
      · simp
      · exact runB_len gs _
    have hp:0 < 2 ^ foundN gs:=Nat.pow_pos (by decide)
    rw[foundN_cons]
    unfold runB
    by_cases h:isM g=false
    · rw[if_pos h,show (if isM g=true then 1 else 0)+foundN gs=foundN gs from by rw[h];simp]
      split
      · simp
      · exact runB_len gs _
    · have ht:isM g=true:=by simpa using h
      rw[if_neg h,show (if isM g=true then 1 else 0)+foundN gs=foundN gs+1 from by rw[ht];simp;omega,Nat.pow_succ]
      have h0:=hs 0
      have h1:=hs 1
      split
      · simp
      split
      · simp
      · rw[List.length_append]
        omega
theorem foundN_drop (gs : List Gt) (i:Nat):foundN (gs.drop i)≤foundN gs:=by
  unfold foundN
  have:=(List.drop_sublist i gs).filter isM
  exact this.length_le
structure BrOK (b : Br) (n i:Nat):Prop where
  len:b.state.length=2 ^ n
  right:∀ x∈b.state,IsL x
  outs:b.outs.length≤i
theorem BrOK.chk {b : Br} {n i:Nat} (h:BrOK b n i):∀ x∈b.state,checkF x.1 x.2=0:=fun x hx=>(h.right x hx).ok
theorem done_good {v : Vec} {g:Gt} (h:(doneG v g).2=0):∀ x∈(doneG v g).1,IsL x:=by
  unfold doneG rowsE at h ⊢
  split
  · rename_i he
    rw[if_pos he] at h
    exact absurd h he
  · rename_i he
    intro x hx
    obtain⟨a,ha,rfl⟩:=List.mem_map.1 hx
    have h0:firstErr ((List.range v.length).map fun a=>(rowG v g a).2)=0:=by simpa using he
    have:=firstErr_zero h0 _ (List.mem_map.2 ⟨a,ha,rfl⟩)
    exact dotP_L _ this
theorem BrOK.next {b : Br} {n i:Nat} {g:Gt} {o:Int} (h:BrOK b n i) (he:(nextB b g o).2=0):BrOK (nextB b g o).1 n (i+1):=by
  unfold nextB at he ⊢
  have ho:=h.outs
  split
  · exact⟨by rw[kept_len];exact h.len,kept_good h.chk _ _,by simp;omega⟩
  · rename_i h13
    rw[if_neg h13] at he
    split
    · rename_i h14
      rw[if_pos h14] at he
      split
      · rename_i h1
        rw[if_pos h1] at he
        exact⟨by rw[doneG_len he,kept_len];exact h.len,done_good he,by simp;omega⟩
      · exact⟨by rw[kept_len];exact h.len,kept_good h.chk _ _,by simp;omega⟩
    · rename_i h14
      rw[if_neg h14] at he
      split
      · rename_i h1
        rw[if_pos h1] at he
        exact⟨by rw[doneG_len he];exact h.len,done_good he,by dsimp only;omega⟩
      · exact⟨h.len,h.right,Nat.le_succ_of_le ho⟩
def BrC (H : PH) (b:Br) (c:List Value):Prop:=∃ ov sv,c=[ov,.int .i64 b.bits,sv]∧IntsC H ov b.outs∧NumH H sv b.state
theorem BrC.up {H H' : PH} {b:Br} {c:List Value} (h:BrC H b c) (hs:Sub H H'):BrC H' b c:=by
  obtain⟨ov,sv,e,h1,h2⟩:=h
  exact⟨ov,sv,e,h1.up hs,NumH.up h2 hs⟩
def BrsC (H : PH) (bs:List Br) (cs:List (List Value)):Prop:=cs.length=bs.length∧∀ (i:Nat) b c,bs[i]?=some b→cs[i]?=some c→BrC H b c
theorem BrsC.up {H H' : PH} {bs:List Br} {cs:List (List Value)} (h:BrsC H bs cs) (hs:Sub H H'):BrsC H' bs cs:=⟨h.1,fun i b c h1 h2=>(h.2 i b c h1 h2).up hs⟩
theorem BrsC.nil (H : PH):BrsC H [] []:=⟨rfl,fun i b c h=>by simp at h⟩
theorem BrsC.one {H : PH} {b:Br} {c:List Value} (h:BrC H b c):BrsC H [b] [c]:=⟨rfl,fun i b' c' h1 h2=>by
  cases i with
  | zero=>cases h1;cases h2;exact h
  | succ i=>simp at h1⟩
theorem BrsC.app {H : PH} {bs bs':List Br} {cs cs':List (List Value)} (h:BrsC H bs cs) (h':BrsC H bs' cs'):BrsC H (bs++bs') (cs++cs'):=by
  refine⟨by simp[h.1,h'.1],fun i b c h1 h2=>?_⟩
  by_cases hi:i < bs.length
  · rw[List.getElem?_append_left hi] at h1
    rw[List.getElem?_append_left (by rw[h.1];exact hi)] at h2
    exact h.2 i b c h1 h2
  · rw[List.getElem?_append_right (by omega)] at h1
    rw[List.getElem?_append_right (by rw[h.1];omega),h.1] at h2
    exact h'.2 _ b c h1 h2
def BrsH (H : PH) (v:Value) (bs:List Br):Prop:=∃ cs,RecsH H 3 v cs∧BrsC H bs cs
theorem BrsH.up {H H' : PH} {v:Value} {bs:List Br} (h:BrsH H v bs) (hs:Sub H H'):BrsH H' v bs:=by
  obtain⟨cs,h1,h2⟩:=h
  exact⟨cs,h1.up hs,h2.up hs⟩
theorem RecsH.src {H : PH} {sz:Nat} {base:Option Addr} {n cap:Nat} {cs:List (List Value)} (h:RecsH H sz (.slice base n cap) cs):n=cs.length∧(base=none→cs=[])∧∀ O a,base=some a→0 < cs.length→Rd H O a (cs.length*sz) cs.flatten:=by
  obtain⟨h1,_,_,e,h2⟩:=h
  cases e
  have hl:=flat_length h1
  rcases h2 with⟨h2,_⟩ | ⟨b,off,c,t,fr,rfl,h3,h4⟩
  · exact⟨rfl,fun _=>List.length_eq_zero_iff.1 h2,fun O a ha hp=>by omega⟩
  · refine⟨rfl,fun h=>(by cases h),fun O a ha hp=>?_⟩
    cases ha
    rw[hl] at h4
    exact⟨rfl,hl,c,t,fr,.inl h3,h4⟩
def OutBs (H : PH) (r:Value) (x:List Br × Int):Prop:=∃ u,r=.tuple #[u,.int .i64 x.2]∧BrsH H u x.1
def OutBsO (H M : PH) (t:TypeId) (r:Value) (x:List Br × Int):Prop:=∃ u cs,r=.tuple #[u,.int .i64 x.2]∧OwnS M 3 t u cs∧BrsC H x.1 cs
theorem OutBsO.bad {H M : PH} {t:TypeId} {e:Int}:OutBsO H M t (.tuple #[.slice none 0 0,.int .i64 e]) ([],e):=⟨_,[],rfl,⟨by simp,.inl ⟨rfl,rfl⟩⟩,BrsC.nil H⟩
theorem Cl.outBs {f : FuncId} {args:List Value} {H:PH} {t:TypeId} {x:List Br × Int} (h:Cl Tryz.prog f args H emp fun r H' M'=>OutBsO H' M' t r x):Cl Tryz.prog f args H emp fun r H' _=>OutBs H' r x:=
  h.repart fun _ _ _ _ hd h=>by
    obtain⟨u,cs,e,h1,h2⟩:=h
    obtain⟨H',M',rp,h3⟩:=OwnS.recs hd h1
    exact⟨H',M',rp,u,e,cs,h3,h2.up rp.sub⟩
set_option maxHeartbeats 8000000 in
theorem d55o (c : Ct) (n bits:Nat) (hlen:c.gates.length≤120) (hfew:foundN c.gates≤8) (hgs:∀ g∈c.gates,RGate g n bits) (hn:n≤6):∀ (m i:Nat),i+m=c.gates.length→∀ (b:Br),BrOK b n i→∀ (H:PH) (x y:Value),CircH H x c→BrH H y b →
    Cl Tryz.prog 55 [x,y,.int .i64 i] H emp fun r H' M'=>OutBsO H' M' 39 r (runB (c.gates.drop i) b):=by
  intro m
  induction m using Nat.strongRecOn with
  | ind m ih=>
  intro i him b hb H x y hcc hy
  obtain⟨gb,gc,rfl,hg⟩:=CircH.sl hcc
  obtain⟨ov0,sv0,rfl,hov,hsv⟩:=hy
  obtain⟨ovb,ovc,rfl,hovc,hovh⟩:=id hov
  obtain⟨svb,svc,rfl,_⟩:=id hsv
  obtain⟨p1,p2⟩:=pow6 hn
  refine Cl_of (pol:=(fun | 84=>.own | _=>.loc)) Γok Tryz.func55 (by kernel_rfl) rfl ?_
  conv=>whnf
  intro b3
  conv=>whnf
  intro b4
  conv=>whnf
  refine W_loop (pol:=(fun | 84=>.own | _=>.loc)) Γok (Nat × PH × Br × Value × Value) (fun z=>i≤z.1∧z.1≤c.gates.length∧Sub H z.2.1∧BrOK z.2.2.1 n z.1∧IntsC z.2.1 z.2.2.2.1 z.2.2.1.outs∧NumH z.2.1 z.2.2.2.2 z.2.2.1.state∧runB (c.gates.drop i) b=runB (c.gates.drop z.1) z.2.2.1) (fun z=>c.gates.length - z.1) (fun z=>[(8,.v (.int .i64 z.1))]) (fun z=>[(1,[z.2.2.2.1,.int .i64 z.2.2.1.bits,z.2.2.2.2])]) (fun z=>z.2.1) (fun _=>emp) ⟨(i,H,b,.slice ovb b.outs.length ovc,.slice svb b.state.length svc),⟨Nat.le_refl _,by dsimp only;omega,Sub.refl _,hb,hov,hsv,rfl⟩,rfl,rfl,?_⟩ ?_
  · conv=>whnf
    repeat (refine⟨rfl,?_⟩;conv=>whnf)
    exact trivial
  rintro ⟨j,Hj,bj,ov,sv⟩ ⟨h1,h2,hsj,hbj,hovj,hsvj,hrun⟩
  dsimp only at h1 h2 hsj hbj hovj hsvj hrun
  obtain⟨ovb,ovc,rfl,hovjc,_⟩:=id hovj
  obtain⟨svb,svc,rfl,_⟩:=id hsvj
  conv=>whnf
  refine if_intro (fun hcj=>?_) (fun hcj=>?_)
  · have hij:j < c.gates.length:=by
      have:=of_decide_eq_true hcj
      omega
    have hout:=hbj.outs
    have hgj:=hgs _ (List.getElem_mem hij)
    rw[runB_step hij] at hrun
    obtain⟨gbb,goff,w,wb,wc,rfl,hw,hrd,hwe⟩:=hg.rd hij
    subst hw
    conv=>whnf
    refine dec_intro (by omega) ?_
    conv=>whnf
    refine⟨_,hrd Hj emp hsj,?_⟩
    conv=>whnf
    intro b9
    conv=>whnf
    have hbH:BrH Hj (.agg ⟨[.slice ovb bj.outs.length ovc,.int .i64 bj.bits,.slice svb bj.state.length svc]⟩) bj:=⟨_,_,rfl,hovj,hsvj⟩
    refine if_intro (fun h13=>?_) (fun h13=>?_)
    · conv=>whnf
      refine if_intro (fun h14=>?_) (fun h14=>?_)
      · have hM:isM c.gates[j]=false:=by
          unfold isM
          have e1:(c.gates[j].kind == 13)=false:=by simpa using h13
          have e2:(c.gates[j].kind == 14)=false:=by simpa using h14
          rw[e1,e2]
          rfl
        rw[if_pos hM] at hrun
        conv=>whnf
        refine (d58 bj c.gates[j] 0 n bits hgj (.inl rfl) hbj.len hbj.chk (by omega) _ _ _ hbH (hwe.up hsj)).use fun r Ha sa hr=>?_
        obtain⟨_,u,rfl,ov2,sv2,rfl,hov2,hsv2⟩:=hr
        obtain⟨ov2b,ov2c,rfl,hov2c,_⟩:=id hov2
        obtain⟨sv2b,sv2c,rfl,_⟩:=id hsv2
        conv=>whnf
        intro b10
        conv=>whnf
        refine if_intro (fun he=>?_) (fun he=>?_)
        · have he:(nextB bj c.gates[j] 0).2 ≠ 0:=by simpa using he
          rw[if_pos he] at hrun
          conv=>whnf
          rw[hrun]
          exact OutBsO.bad
        have he:(nextB bj c.gates[j] 0).2=0:=by simpa using he
        rw[if_neg (by simpa using he)] at hrun
        conv=>whnf
        refine⟨(j+1,Ha,(nextB bj c.gates[j] 0).1,.slice ov2b (nextB bj c.gates[j] 0).1.outs.length ov2c,.slice sv2b (nextB bj c.gates[j] 0).1.state.length sv2c),⟨by dsimp only;omega,by dsimp only;omega,hsj.trans sa,hbj.next he,hov2,hsv2,hrun⟩,by dsimp only;omega,?_⟩
        refine⟨rfl,rfl,?_⟩
        conv=>whnf
        repeat (refine⟨rfl,?_⟩;conv=>whnf)
        refine⟨by show En.v (.int .i64 (IntKind.i64.wrap (j+1)))=_;rw[wrap_id (by omega) (by omega)]<;>rfl,?_⟩
        conv=>whnf
        repeat (refine⟨rfl,?_⟩;conv=>whnf)
        exact trivial
      · have hM:isM c.gates[j]=true:=by
          unfold isM
          have e2:(c.gates[j].kind == 14)=true:=by simpa using h14
          rw[e2,Bool.or_true]
        rw[if_neg (by rw[hM];simp)] at hrun
        conv=>whnf
        refine W_loop (pol:=(fun | 84=>.own | _=>.loc)) Γok (Nat × PH × Value × PH × List (List Value) × List Br) (fun z=>z.1≤2∧Sub Hj z.2.1∧OwnS z.2.2.2.1 3 39 z.2.2.1 z.2.2.2.2.1∧BrsC z.2.1 z.2.2.2.2.2 z.2.2.2.2.1∧((z.1=0∧z.2.2.2.2.2=[])∨(z.1=1∧(subR (runB (c.gates.drop (j+1))) bj c.gates[j] 0).2=0∧z.2.2.2.2.2=(subR (runB (c.gates.drop (j+1))) bj c.gates[j] 0).1)∨(z.1=2∧runB (c.gates.drop i) b=(z.2.2.2.2.2,0)))) (fun z=>2 - z.1) (fun z=>[(12,.v z.2.2.1),(13,.v (.int .i64 z.1))]) (fun _=>[]) (fun z=>z.2.1) (fun z=>z.2.2.2.1) ⟨(0,Hj,.slice none 0 0,emp,[],[]),⟨by simp,Sub.refl _,⟨by simp,.inl ⟨rfl,rfl⟩⟩,BrsC.nil _,.inl ⟨rfl,rfl⟩⟩,rfl,rfl,?_⟩ ?_
        · conv=>whnf
          repeat (refine⟨rfl,?_⟩;conv=>whnf)
          exact trivial
        rintro ⟨q,Hq,outv,Oq,cs,acc⟩ ⟨h1q,hsq,hoq,hcq,hst⟩
        dsimp only at h1q hsq hoq hcq hst
        obtain⟨outb,outn,outc,rfl⟩:=OwnS.sl hoq
        conv=>whnf
        refine if_intro (fun hcqq=>?_) (fun hcqq=>?_)
        · have hiq:q < 2:=by
            have:=of_decide_eq_true hcqq
            omega
          have stop:∀ e:Int,(subR (runB (c.gates.drop (j+1))) bj c.gates[j] q).2=e→e ≠ 0→runB (c.gates.drop i) b=([],e):=by
            intro e he hne
            rcases hst with⟨h,_⟩ | ⟨h,h0,_⟩ | ⟨h,_⟩
            · subst h
              rw[hrun,if_pos (by rw[show ((0:Nat):Int)=0 from rfl] at he;rw[he];exact hne)]
              rw[show ((0:Nat):Int)=0 from rfl] at he
              rw[he]
            · subst h
              rw[show ((1:Nat):Int)=1 from rfl] at he
              rw[hrun,if_neg (by rw[h0];simp),if_pos (by rw[he];exact hne),he]
            · omega
          have goon:∀ bs:List Br,subR (runB (c.gates.drop (j+1))) bj c.gates[j] q=(bs,0)→((q+1=0∧acc++bs=[])∨(q+1=1∧(subR (runB (c.gates.drop (j+1))) bj c.gates[j] 0).2=0∧acc++bs=(subR (runB (c.gates.drop (j+1))) bj c.gates[j] 0).1)∨(q+1=2∧runB (c.gates.drop i) b=(acc++bs,0))):=by
            intro bs hbs
            rcases hst with⟨h,h0⟩ | ⟨h,h0,h1⟩ | ⟨h,_⟩
            · subst h
              rw[show ((0:Nat):Int)=0 from rfl] at hbs
              exact .inr (.inl ⟨rfl,by rw[hbs],by rw[h0,hbs]<;>rfl⟩)
            · subst h
              rw[show ((1:Nat):Int)=1 from rfl] at hbs
              refine .inr (.inr ⟨rfl,?_⟩)
              rw[hrun,if_neg (by rw[h0];simp),hbs,if_neg (by simp),h1]
            · omega
          have acclen:acc.length≤256:=by
            rcases hst with⟨h,h0⟩ | ⟨h,h0,h1⟩ | ⟨h,_⟩
            · rw[h0];simp
            · rw[h1]
              refine Nat.le_trans (?_:_≤2 ^ foundN (c.gates.drop (j+1))) (Nat.le_trans (Nat.pow_le_pow_right (by decide) (Nat.le_trans (foundN_drop _ _) hfew)) (by decide))
              unfold subR
              split
              · simp
              split
              · simp
              · exact runB_len _ _
            · omega
          conv=>whnf
          refine (d58 bj c.gates[j] q n bits hgj (by omega) hbj.len hbj.chk (by omega) _ _ _ (hbH.up hsq) (hwe.up (hsj.trans hsq))).use fun r Ha sa hr=>?_
          obtain⟨_,u,rfl,ov2,sv2,rfl,hov2,hsv2⟩:=hr
          obtain⟨ov2b,ov2c,rfl,hov2c,_⟩:=id hov2
          obtain⟨sv2b,sv2c,rfl,_⟩:=id hsv2
          conv=>whnf
          intro b14
          conv=>whnf
          refine if_intro (fun he=>?_) (fun he=>?_)
          · have he:(nextB bj c.gates[j] q).2 ≠ 0:=by simpa using he
            conv=>whnf
            rw[stop _ (by unfold subR;rw[if_pos he]) he]
            exact OutBsO.bad
          have he:(nextB bj c.gates[j] q).2=0:=by simpa using he
          have hnx:=hbj.next (g:=c.gates[j]) (o:=q) he
          conv=>whnf
          refine (d59 (nextB bj c.gates[j] q).1.state (by have:=hnx.len;omega) hnx.chk _ _ hsv2).val fun Hb sb=>?_
          conv=>whnf
          refine if_intro (fun hd=>?_) (fun hd=>?_)
          · have hg0:=goon [] (by unfold subR;rw[if_neg (by rw[he];simp),if_pos hd])
            rw[List.append_nil] at hg0
            conv=>whnf
            refine⟨(q+1,Hb,.slice outb outn outc,Oq,cs,acc),⟨by dsimp only;omega,hsq.trans (sa.trans sb),hoq,hcq.up (sa.trans sb),hg0⟩,by dsimp only;omega,?_⟩
            refine⟨rfl,rfl,?_⟩
            conv=>whnf
            repeat (refine⟨rfl,?_⟩;conv=>whnf)
            refine⟨by show En.v (.int .i64 (IntKind.i64.wrap (q+1)))=_;rw[wrap_id (by omega) (by omega)]<;>rfl,?_⟩
            conv=>whnf
            repeat (refine⟨rfl,?_⟩;conv=>whnf)
            exact trivial
          conv=>whnf
          rw[wrap_id (n:=(j:Int)+1) (by omega) (by omega)]
          have esub:subR (runB (c.gates.drop (j+1))) bj c.gates[j] q=runB (c.gates.drop (j+1)) (nextB bj c.gates[j] q).1:=by unfold subR;rw[if_neg (by rw[he];simp),if_neg (by rw[hd];simp)]
          refine (Cl.outBs (ih (c.gates.length - (j+1)) (by omega) (j+1) (by omega) (nextB bj c.gates[j] q).1 hnx Hb _ _ (hcc.up (hsj.trans (hsq.trans (sa.trans sb)))) ⟨_,_,rfl,hov2.up sb,NumH.up hsv2 sb⟩)).use fun r Hc sc hr=>?_
          obtain⟨_,l,rfl,cs2,hl1,hl2⟩:=hr
          obtain⟨lb,lc,rfl⟩:=hl1.sl
          conv=>whnf
          refine if_intro (fun he2=>?_) (fun he2=>?_)
          · have he2:(runB (c.gates.drop (j+1)) (nextB bj c.gates[j] q).1).2 ≠ 0:=by simpa using he2
            conv=>whnf
            rw[stop _ (by rw[esub]) he2]
            exact OutBsO.bad
          have he2:(runB (c.gates.drop (j+1)) (nextB bj c.gates[j] q).1).2=0:=by simpa using he2
          have hg0:=goon (runB (c.gates.drop (j+1)) (nextB bj c.gates[j] q).1).1 (by rw[esub];exact Prod.ext rfl he2)
          have hl256:cs2.length≤256:=by
            rw[hl2.1]
            exact Nat.le_trans (runB_len _ _) (Nat.le_trans (Nat.pow_le_pow_right (by decide) (Nat.le_trans (foundN_drop _ _) hfew)) (by decide))
          conv=>whnf
          obtain⟨_,hsrc1,hsrc2⟩:=hl1.src
          refine append_many (xs:=cs) (ys:=cs2) hoq rfl (fun y hy=>hl1.1 y hy) (fun v hv=>?_) ⟨lb,lc,rfl,hsrc1,fun a ha hp=>hsrc2 Oq a ha hp⟩ ?_ fun v2 O4 hO4 _=>?_
          · obtain⟨y,hy,hvy⟩:=List.mem_flatten.1 hv
            obtain⟨k,hk,rfl⟩:=List.mem_iff_getElem.1 hy
            obtain⟨ov3,sv3,e3,h3o,h3s⟩:=hl2.2 k _ _ (List.getElem?_eq_getElem (by rw[← hl2.1];exact hk)) (List.getElem?_eq_getElem hk)
            obtain⟨_,_,rfl,_⟩:=h3o
            obtain⟨_,_,rfl,_⟩:=h3s
            rw[e3] at hvy
            simp at hvy
            rcases hvy with rfl | rfl | rfl<;>rfl
          · rw[hcq.1]
            omega
          obtain⟨v2b,v2n,v2c,rfl⟩:=OwnS.sl hO4
          conv=>whnf
          refine⟨(q+1,Hc,.slice v2b v2n v2c,O4,cs++cs2,acc++(runB (c.gates.drop (j+1)) (nextB bj c.gates[j] q).1).1),⟨by dsimp only;omega,hsq.trans (sa.trans (sb.trans sc)),hO4,(hcq.up (sa.trans (sb.trans sc))).app hl2,hg0⟩,by dsimp only;omega,?_⟩
          refine⟨rfl,rfl,?_⟩
          conv=>whnf
          repeat (refine⟨rfl,?_⟩;conv=>whnf)
          refine⟨by show En.v (.int .i64 (IntKind.i64.wrap (q+1)))=_;rw[wrap_id (by omega) (by omega)]<;>rfl,?_⟩
          conv=>whnf
          repeat (refine⟨rfl,?_⟩;conv=>whnf)
          exact trivial
        have hiq:q=2:=by
          have:=of_decide_eq_false hcqq
          omega
        rcases hst with⟨h,_⟩ | ⟨h,_⟩ | ⟨_,hres⟩
        · omega
        · omega
        conv=>whnf
        rw[hres]
        exact⟨_,cs,rfl,hoq,hcq⟩
    · have hM:isM c.gates[j]=true:=by
        unfold isM
        have e1:(c.gates[j].kind == 13)=true:=by simpa using h13
        rw[e1]
        rfl
      rw[if_neg (by rw[hM];simp)] at hrun
      conv=>whnf
      refine W_loop (pol:=(fun | 84=>.own | _=>.loc)) Γok (Nat × PH × Value × PH × List (List Value) × List Br) (fun z=>z.1≤2∧Sub Hj z.2.1∧OwnS z.2.2.2.1 3 39 z.2.2.1 z.2.2.2.2.1∧BrsC z.2.1 z.2.2.2.2.2 z.2.2.2.2.1∧((z.1=0∧z.2.2.2.2.2=[])∨(z.1=1∧(subR (runB (c.gates.drop (j+1))) bj c.gates[j] 0).2=0∧z.2.2.2.2.2=(subR (runB (c.gates.drop (j+1))) bj c.gates[j] 0).1)∨(z.1=2∧runB (c.gates.drop i) b=(z.2.2.2.2.2,0)))) (fun z=>2 - z.1) (fun z=>[(12,.v z.2.2.1),(13,.v (.int .i64 z.1))]) (fun _=>[]) (fun z=>z.2.1) (fun z=>z.2.2.2.1) ⟨(0,Hj,.slice none 0 0,emp,[],[]),⟨by simp,Sub.refl _,⟨by simp,.inl ⟨rfl,rfl⟩⟩,BrsC.nil _,.inl ⟨rfl,rfl⟩⟩,rfl,rfl,?_⟩ ?_
      · conv=>whnf
        repeat (refine⟨rfl,?_⟩;conv=>whnf)
        exact trivial
      rintro ⟨q,Hq,outv,Oq,cs,acc⟩ ⟨h1q,hsq,hoq,hcq,hst⟩
      dsimp only at h1q hsq hoq hcq hst
      obtain⟨outb,outn,outc,rfl⟩:=OwnS.sl hoq
      conv=>whnf
      refine if_intro (fun hcqq=>?_) (fun hcqq=>?_)
      · have hiq:q < 2:=by
          have:=of_decide_eq_true hcqq
          omega
        have stop:∀ e:Int,(subR (runB (c.gates.drop (j+1))) bj c.gates[j] q).2=e→e ≠ 0→runB (c.gates.drop i) b=([],e):=by
          intro e he hne
          rcases hst with⟨h,_⟩ | ⟨h,h0,_⟩ | ⟨h,_⟩
          · subst h
            rw[hrun,if_pos (by rw[show ((0:Nat):Int)=0 from rfl] at he;rw[he];exact hne)]
            rw[show ((0:Nat):Int)=0 from rfl] at he
            rw[he]
          · subst h
            rw[show ((1:Nat):Int)=1 from rfl] at he
            rw[hrun,if_neg (by rw[h0];simp),if_pos (by rw[he];exact hne),he]
          · omega
        have goon:∀ bs:List Br,subR (runB (c.gates.drop (j+1))) bj c.gates[j] q=(bs,0)→((q+1=0∧acc++bs=[])∨(q+1=1∧(subR (runB (c.gates.drop (j+1))) bj c.gates[j] 0).2=0∧acc++bs=(subR (runB (c.gates.drop (j+1))) bj c.gates[j] 0).1)∨(q+1=2∧runB (c.gates.drop i) b=(acc++bs,0))):=by
          intro bs hbs
          rcases hst with⟨h,h0⟩ | ⟨h,h0,h1⟩ | ⟨h,_⟩
          · subst h
            rw[show ((0:Nat):Int)=0 from rfl] at hbs
            exact .inr (.inl ⟨rfl,by rw[hbs],by rw[h0,hbs]<;>rfl⟩)
          · subst h
            rw[show ((1:Nat):Int)=1 from rfl] at hbs
            refine .inr (.inr ⟨rfl,?_⟩)
            rw[hrun,if_neg (by rw[h0];simp),hbs,if_neg (by simp),h1]
          · omega
        have acclen:acc.length≤256:=by
          rcases hst with⟨h,h0⟩ | ⟨h,h0,h1⟩ | ⟨h,_⟩
          · rw[h0];simp
          · rw[h1]
            refine Nat.le_trans (?_:_≤2 ^ foundN (c.gates.drop (j+1))) (Nat.le_trans (Nat.pow_le_pow_right (by decide) (Nat.le_trans (foundN_drop _ _) hfew)) (by decide))
            unfold subR
            split
            · simp
            split
            · simp
            · exact runB_len _ _
          · omega
        conv=>whnf
        refine (d58 bj c.gates[j] q n bits hgj (by omega) hbj.len hbj.chk (by omega) _ _ _ (hbH.up hsq) (hwe.up (hsj.trans hsq))).use fun r Ha sa hr=>?_
        obtain⟨_,u,rfl,ov2,sv2,rfl,hov2,hsv2⟩:=hr
        obtain⟨ov2b,ov2c,rfl,hov2c,_⟩:=id hov2
        obtain⟨sv2b,sv2c,rfl,_⟩:=id hsv2
        conv=>whnf
        intro b14
        conv=>whnf
        refine if_intro (fun he=>?_) (fun he=>?_)
        · have he:(nextB bj c.gates[j] q).2 ≠ 0:=by simpa using he
          conv=>whnf
          rw[stop _ (by unfold subR;rw[if_pos he]) he]
          exact OutBsO.bad
        have he:(nextB bj c.gates[j] q).2=0:=by simpa using he
        have hnx:=hbj.next (g:=c.gates[j]) (o:=q) he
        conv=>whnf
        refine (d59 (nextB bj c.gates[j] q).1.state (by have:=hnx.len;omega) hnx.chk _ _ hsv2).val fun Hb sb=>?_
        conv=>whnf
        refine if_intro (fun hd=>?_) (fun hd=>?_)
        · have hg0:=goon [] (by unfold subR;rw[if_neg (by rw[he];simp),if_pos hd])
          rw[List.append_nil] at hg0
          conv=>whnf
          refine⟨(q+1,Hb,.slice outb outn outc,Oq,cs,acc),⟨by dsimp only;omega,hsq.trans (sa.trans sb),hoq,hcq.up (sa.trans sb),hg0⟩,by dsimp only;omega,?_⟩
          refine⟨rfl,rfl,?_⟩
          conv=>whnf
          repeat (refine⟨rfl,?_⟩;conv=>whnf)
          refine⟨by show En.v (.int .i64 (IntKind.i64.wrap (q+1)))=_;rw[wrap_id (by omega) (by omega)]<;>rfl,?_⟩
          conv=>whnf
          repeat (refine⟨rfl,?_⟩;conv=>whnf)
          exact trivial
        conv=>whnf
        rw[wrap_id (n:=(j:Int)+1) (by omega) (by omega)]
        have esub:subR (runB (c.gates.drop (j+1))) bj c.gates[j] q=runB (c.gates.drop (j+1)) (nextB bj c.gates[j] q).1:=by unfold subR;rw[if_neg (by rw[he];simp),if_neg (by rw[hd];simp)]
        refine (Cl.outBs (ih (c.gates.length - (j+1)) (by omega) (j+1) (by omega) (nextB bj c.gates[j] q).1 hnx Hb _ _ (hcc.up (hsj.trans (hsq.trans (sa.trans sb)))) ⟨_,_,rfl,hov2.up sb,NumH.up hsv2 sb⟩)).use fun r Hc sc hr=>?_
        obtain⟨_,l,rfl,cs2,hl1,hl2⟩:=hr
        obtain⟨lb,lc,rfl⟩:=hl1.sl
        conv=>whnf
        refine if_intro (fun he2=>?_) (fun he2=>?_)
        · have he2:(runB (c.gates.drop (j+1)) (nextB bj c.gates[j] q).1).2 ≠ 0:=by simpa using he2
          conv=>whnf
          rw[stop _ (by rw[esub]) he2]
          exact OutBsO.bad
        have he2:(runB (c.gates.drop (j+1)) (nextB bj c.gates[j] q).1).2=0:=by simpa using he2
        have hg0:=goon (runB (c.gates.drop (j+1)) (nextB bj c.gates[j] q).1).1 (by rw[esub];exact Prod.ext rfl he2)
        have hl256:cs2.length≤256:=by
          rw[hl2.1]
          exact Nat.le_trans (runB_len _ _) (Nat.le_trans (Nat.pow_le_pow_right (by decide) (Nat.le_trans (foundN_drop _ _) hfew)) (by decide))
        conv=>whnf
        obtain⟨_,hsrc1,hsrc2⟩:=hl1.src
        refine append_many (xs:=cs) (ys:=cs2) hoq rfl (fun y hy=>hl1.1 y hy) (fun v hv=>?_) ⟨lb,lc,rfl,hsrc1,fun a ha hp=>hsrc2 Oq a ha hp⟩ ?_ fun v2 O4 hO4 _=>?_
        · obtain⟨y,hy,hvy⟩:=List.mem_flatten.1 hv
          obtain⟨k,hk,rfl⟩:=List.mem_iff_getElem.1 hy
          obtain⟨ov3,sv3,e3,h3o,h3s⟩:=hl2.2 k _ _ (List.getElem?_eq_getElem (by rw[← hl2.1];exact hk)) (List.getElem?_eq_getElem hk)
          obtain⟨_,_,rfl,_⟩:=h3o
          obtain⟨_,_,rfl,_⟩:=h3s
          rw[e3] at hvy
          simp at hvy
          rcases hvy with rfl | rfl | rfl<;>rfl
        · rw[hcq.1]
          omega
        obtain⟨v2b,v2n,v2c,rfl⟩:=OwnS.sl hO4
        conv=>whnf
        refine⟨(q+1,Hc,.slice v2b v2n v2c,O4,cs++cs2,acc++(runB (c.gates.drop (j+1)) (nextB bj c.gates[j] q).1).1),⟨by dsimp only;omega,hsq.trans (sa.trans (sb.trans sc)),hO4,(hcq.up (sa.trans (sb.trans sc))).app hl2,hg0⟩,by dsimp only;omega,?_⟩
        refine⟨rfl,rfl,?_⟩
        conv=>whnf
        repeat (refine⟨rfl,?_⟩;conv=>whnf)
        refine⟨by show En.v (.int .i64 (IntKind.i64.wrap (q+1)))=_;rw[wrap_id (by omega) (by omega)]<;>rfl,?_⟩
        conv=>whnf
        repeat (refine⟨rfl,?_⟩;conv=>whnf)
        exact trivial
      have hiq:q=2:=by
        have:=of_decide_eq_false hcqq
        omega
      rcases hst with⟨h,_⟩ | ⟨h,_⟩ | ⟨_,hres⟩
      · omega
      · omega
      conv=>whnf
      rw[hres]
      exact⟨_,cs,rfl,hoq,hcq⟩
  have hij:j=c.gates.length:=by
    have:=of_decide_eq_false hcj
    omega
  subst hij
  rw[List.drop_length] at hrun
  have hfin:runB [] bj=if deadB bj.state=true then ([],0) else ([bj],0):=rfl
  rw[hrun,hfin]
  conv=>whnf
  refine (d59 bj.state (by have:=hbj.len;omega) hbj.chk _ _ hsvj).val fun Ha sa=>?_
  conv=>whnf
  refine if_intro (fun hd=>?_) (fun hd=>?_)
  · rw[if_pos hd]
    conv=>whnf
    exact OutBsO.bad
  rw[if_neg (by rw[hd];simp)]
  conv=>whnf
  intro b84 hb84 hO84
  conv=>whnf
  refine⟨_,[[.slice ovb bj.outs.length ovc,.int .i64 bj.bits,.slice svb bj.state.length svc]],rfl,⟨fun x hx=>by simp at hx;rw[hx]<;>rfl,.inr ⟨b84,1,[],rfl,ins_same _ _ _,by simp,by simp⟩⟩,BrsC.one ⟨_,_,rfl,hovj.up sa,NumH.up hsvj sa⟩⟩
end Go.Proofs.YtmhnalikebkhjaaGreatDoor

namespace Go.Proofs.YtmhnalikebkhjaaGreatDoor
open Go.Proofs.YtmhnalikebkhjaaGreatDoor.X Go.Proofs.YtmhnalikebkhjaaGreatDoor.X.PH
set_option maxRecDepth 100000
structure RunOK (c : Ct) (v:Vec) (n m:Nat):Prop where
  n6:n≤6
  m8:m≤8
  wires:c.wires=n
  bits:c.bits=m
  len:c.gates.length≤120
  few:foundN c.gates≤8
  gates:∀ g∈c.gates,RGate g n m
  vlen:v.length=2 ^ n
  right:∀ x∈v,checkF x.1 x.2=0
theorem run_ok {c : Ct} {v:Vec} (h:beginErr c v=0):∃ n m,RunOK c v n m:=by
  unfold beginErr at h
  by_cases h1:circErr c ≠ 0
  · rw[if_pos h1] at h;exact absurd h h1
  rw[if_neg h1] at h
  by_cases h2:stErr v ≠ 0
  · rw[if_pos h2] at h;exact absurd h h2
  rw[if_neg h2] at h
  by_cases h3:sizeI v.length ≠ c.wires
  · rw[if_pos h3] at h;cases h
  rw[if_neg h3] at h
  by_cases h4:foundN c.gates > 8
  · rw[if_pos h4] at h;cases h
  obtain⟨hin,hl,hg⟩:=circ_gates (c:=c) (by simpa using h1)
  obtain⟨hr,q,hq,hvl,hsz⟩:=stErr_right (v:=v) (by simpa using h2)
  obtain⟨m,hm⟩:=natI (a:=c.bits) (by omega)
  have hw:c.wires=q:=by
    have:sizeI v.length=c.wires:=by simpa using h3
    rw[← this,hsz]
  exact⟨q,m,by omega,by omega,hw,hm,hl,by omega,fun g hgm=>rgate_of (by omega) (by omega) hw hm (hg g hgm),hvl,hr⟩
theorem least_L {v : Vec} (h:∀ x∈v,checkF x.1 x.2=0):∀ x∈leastV v,IsL x:=fun x hx=>by
  obtain⟨y,hy,rfl⟩:=List.mem_map.1 hx
  rw[LeastF_eq (h y hy)]
  exact form_L (h y hy)
def startB (v : Vec):Br:=⟨[],0,leastV v⟩
theorem RunOK.start {c : Ct} {v:Vec} {n m:Nat} (h:RunOK c v n m):BrOK (startB v) n 0:=⟨by show (leastV v).length=_;rw[leastV_len];exact h.vlen,least_L h.right,Nat.le_refl _⟩
def runR (c : Ct) (v:Vec):List Br × Int:=if beginErr c v ≠ 0 then ([],beginErr c v) else runB c.gates (startB v)
theorem IntsC.nil (H : PH):IntsC H (.slice none 0 0) []:=⟨none,0,rfl,by decide,⟨none,0,rfl,.inl ⟨rfl,rfl⟩⟩⟩
theorem OutBs.bad {H : PH} {e:Int}:OutBs H (.tuple #[.slice none 0 0,.int .i64 e]) ([],e):=⟨_,rfl,[],⟨(fun c hc=>by cases hc),_,_,rfl,.inl ⟨rfl,rfl⟩⟩,BrsC.nil H⟩
theorem d13 (c : Ct) (v:Vec) (hfit:c.fit) (hv:v.length≤100000) (H:PH) (x y:Value) (hx:CircH H x c) (hy:NumH H y v):Cl Tryz.prog 13 [x,y] H emp fun r H' _=>OutBs H' r (runR c v):=by
  obtain⟨gb,gc,rfl,hg⟩:=hx.sl
  obtain⟨yb,yc,rfl,_⟩:=id hy
  refine Cl_of (pol:=polL) Γok Tryz.func13 (by kernel_rfl) rfl ?_
  conv=>whnf
  intro b2
  conv=>whnf
  refine (d54 c v hfit (by omega) _ _ _ ⟨_,rfl,hg⟩ hy).val fun Ha sa=>?_
  conv=>whnf
  refine if_intro (fun h=>?_) (fun h=>?_)
  · conv=>whnf
    rw[show runR c v=([],beginErr c v) from if_pos (by simpa using h)]
    exact OutBs.bad
  have h0:beginErr c v=0:=by simpa using h
  rw[show runR c v=runB c.gates (startB v) from if_neg (by rw[h0];simp)]
  obtain⟨n,m,hok⟩:=run_ok h0
  conv=>whnf
  refine W_draw (pol:=polL) Γok mixes [(0,.pend),(1,.pendO),(2,.lock),(3,.pendO),(4,.lock),(5,.pendO),(6,.pendO),(7,.pendO),(8,.pendO)] 20 (by kernel_rfl) rfl ?_
  conv=>whnf
  refine (d56 v hv hok.right _ _ (NumH.up hy sa)).use fun r Hb sb hr=>?_
  obtain⟨_,hr⟩:=hr
  obtain⟨rb,rc,rfl,_⟩:=id hr
  conv=>whnf
  refine (Cl.outBs (d55o c n m hok.len hok.few hok.gates hok.n6 c.gates.length 0 (by omega) (startB v) hok.start _ (cv c (.slice gb c.gates.length gc)) _ ⟨_,rfl,hg.up (sa.trans sb)⟩ ⟨.slice none 0 0,_,rfl,IntsC.nil _,hr⟩)).use fun r Hc sc hr=>?_
  obtain⟨_,u,rfl,hu⟩:=hr
  conv=>whnf
  rw[List.drop_zero] at hu ⊢
  exact⟨u,rfl,hu⟩
end Go.Proofs.YtmhnalikebkhjaaGreatDoor

namespace Go.Proofs.YtmhnalikebkhjaaGreatDoor
open Go.Proofs.YtmhnalikebkhjaaGreatDoor.X Go.Proofs.YtmhnalikebkhjaaGreatDoor.X.PH
set_option maxRecDepth 100000
theorem dead_eq {v : Vec} (h:∀ x∈v,IsL x):deadB v=v.all fun x=>eqN x (P4.zero,0):=by
  unfold deadB
  induction v with
  | nil=>rfl
  | cons x l ih=>
    rw[List.all_cons,List.all_cons,ih fun y hy=>h y (List.mem_cons_of_mem _ hy),(h x (List.mem_cons_self ..)).form]
theorem d109 (x : P4 × Int) (H:PH):Cl Tryz.prog 109 [nv x] H emp fun r _ _=>r=.bool (eqN x (P4.zero,0)):=by
  obtain⟨⟨a,b,c,d⟩,k⟩:=x
  refine Cl_of (pol:=polL) Γok Tryz.func109 (by kernel_rfl) rfl ?_
  conv=>whnf
  intro b1
  conv=>whnf
  rfl
theorem d67 (v : Vec) (hv:v.length < 9223372036854775808) (hL:∀ x∈v,IsL x) (H:PH) (x:Value) (hx:NumH H x v):Cl Tryz.prog 67 [x] H emp fun r _ _=>r=.bool (deadB v):=by
  obtain⟨xb,xc,rfl,_⟩:=id hx
  refine Cl_of (pol:=polL) Γok Tryz.func67 (by kernel_rfl) rfl ?_
  conv=>whnf
  refine (d108 v (fun x=>eqN x (P4.zero,0)) _ _ _ _ _ hx (fun y _=>⟨109,[],[],rfl,fun H' _=>d109 y H'⟩) hv).val fun Ha sa=>?_
  conv=>whnf
  rw[dead_eq hL]
def padI (l : List Int):List Int:=l++List.replicate (8 - l.length) 0
theorem eight {α : Type} {l:List α} (h:l.length=8):∃ a0 a1 a2 a3 a4 a5 a6 a7,l=[a0,a1,a2,a3,a4,a5,a6,a7]:=by
  match l,h with
  | [a0,a1,a2,a3,a4,a5,a6,a7],_=>exact⟨a0,a1,a2,a3,a4,a5,a6,a7,rfl⟩
theorem padI_len {l : List Int} (h:l.length≤8):(padI l).length=8:=by simp[padI];omega
theorem d66 (l : List Int) (hl:l.length≤8) (H:PH) (x:Value) (hx:IntsH H x l):Cl Tryz.prog 66 [x] H emp fun r _ _=>r=.agg ⟨(padI l).map fun a=>.int .i64 a⟩:=by
  obtain⟨xb,xc,rfl,hx2⟩:=id hx
  refine Cl_of (pol:=(fun | 3=>.own | _=>.loc)) Γok Tryz.func66 (by kernel_rfl) rfl ?_
  conv=>whnf
  intro b2
  conv=>whnf
  intro b3 hb3 hO3
  conv=>whnf
  unfold copyK
  obtain⟨a0,a1,a2,a3,a4,a5,a6,a7,e8⟩:=eight (padI_len hl)
  refine⟨_,_,_,_,_,_,l.map fun a=>.int .i64 a,rfl,rfl,by simp;omega,(fun v hv=>by obtain⟨a,_,rfl⟩:=List.mem_map.1 hv;rfl),?_,?_,(fun h=>by cases h),?_⟩
  · intro e
    rcases hx2 with⟨h,_⟩ | ⟨b,off,c,t,fr,h,_⟩
    · exact h
    · rw[e] at h;cases h
  · intro a ha hp
    rcases hx2 with⟨h,_⟩ | ⟨b,off,c,t,fr,h,h1,h2⟩
    · omega
    · rw[h] at ha
      cases ha
      refine⟨rfl,by simp;omega,c,t,fr,.inl h1,?_⟩
      rw[show min l.length 8*1=(l.map fun a=>(Value.int .i64 a)).length by simp;omega]
      exact h2
  · intro a ha
    cases ha
    refine⟨b3,0,_,_,rfl,ins_same _ _ _,by simp;omega,?_⟩
    conv=>whnf
    have ec:List.take 0 [Value.int .i64 0,.int .i64 0,.int .i64 0,.int .i64 0,.int .i64 0,.int .i64 0,.int .i64 0,.int .i64 0]++(l.map fun a=>Value.int .i64 a)++List.drop (0+min l.length 8*1) [Value.int .i64 0,.int .i64 0,.int .i64 0,.int .i64 0,.int .i64 0,.int .i64 0,.int .i64 0,.int .i64 0]=[.int .i64 a0,.int .i64 a1,.int .i64 a2,.int .i64 a3,.int .i64 a4,.int .i64 a5,.int .i64 a6,.int .i64 a7]:=by
      have:([a0,a1,a2,a3,a4,a5,a6,a7].map fun a=>Value.int .i64 a)=[.int .i64 a0,.int .i64 a1,.int .i64 a2,.int .i64 a3,.int .i64 a4,.int .i64 a5,.int .i64 a6,.int .i64 a7]:=rfl
      rw[← this,← e8,padI,List.map_append,List.take_zero,List.nil_append]
      congr 1
      rw[show 0+min l.length 8*1=l.length by omega,show ([Value.int .i64 0,.int .i64 0,.int .i64 0,.int .i64 0,.int .i64 0,.int .i64 0,.int .i64 0,.int .i64 0]:List Value)=List.replicate 8 (.int .i64 0) from rfl,List.drop_replicate,List.map_replicate]
    refine⟨[.int .i64 a0,.int .i64 a1,.int .i64 a2,.int .i64 a3,.int .i64 a4,.int .i64 a5,.int .i64 a6,.int .i64 a7],⟨rfl,rfl,_,_,_,.inr (ins_same _ _ _),?_⟩,?_⟩
    · rw[← ec]
      refine List.take_of_length_le ?_
      rw[List.drop_zero,ec]
      exact Nat.le_refl _
    conv=>whnf
    rw[e8]
    rfl
def pv (l : List Int) (k:Int):Value:=.agg ⟨(l.map fun a=>.int .i64 a)++[.int .i64 k]⟩
theorem d102 (p : Value) (l:List Int) (k:Int) (hl:l.length=8) (hp:p=pv l k) (H:PH):Cl Tryz.prog 102 [p] H emp fun r H' _=>IntsH H' r [0,1]:=by
  subst hp
  obtain⟨a0,a1,a2,a3,a4,a5,a6,a7,rfl⟩:=eight hl
  refine Cl_of (pol:=(fun | 3=>.imm | _=>.loc)) Γok Tryz.func102 (by kernel_rfl) rfl ?_
  conv=>whnf
  intro b1
  conv=>whnf
  intro b3 hb3 hO3
  conv=>whnf
  exact⟨_,_,rfl,.inr ⟨b3,0,_,_,_,rfl,ins_same _ _ _,rfl⟩⟩
end Go.Proofs.YtmhnalikebkhjaaGreatDoor

namespace Go.Proofs.YtmhnalikebkhjaaGreatDoor
open Go.Proofs.YtmhnalikebkhjaaGreatDoor.X Go.Proofs.YtmhnalikebkhjaaGreatDoor.X.PH
set_option maxRecDepth 100000
def runCells (c : Ct) (gs:Value) (bm:Nat) (ch:Value) (all:Bool):List Value:=[.int .i64 c.wires,.int .i64 c.bits,gs,.map (some bm),ch,.bool all]
def BegunR (M' : PH) (c:Ct) (v:Vec) (gs r:Value):Prop:=
  (beginErr c v ≠ 0∧r=.tuple #[.agg ⟨[.int .i64 0,.int .i64 0,.slice none 0 0,.map none,.nilFunc,.bool false]⟩,.int .i64 0,.int .i64 (beginErr c v)]) ∨
  (beginErr c v=0∧∃ bm,M' bm=some (.map #[] 0)∧r=.tuple #[.agg ⟨runCells c gs bm (.func (.func 102) #[] #[]) false⟩,.int .i64 (foundN c.gates),.int .i64 0])
theorem d61 (c : Ct) (v:Vec) (gs:Value) (hfit:c.fit) (hv:v.length≤100000) (H:PH) (y:Value) (hx:GatesH H gs c.gates) (hy:NumH H y v):Cl Tryz.prog 61 [cv c gs,y] H emp fun r _ M'=>BegunR M' c v gs r:=by
  have hg:=hx
  obtain⟨gb,gc,rfl⟩:=hx.sl
  obtain⟨yb,yc,rfl,_⟩:=id hy
  have hlen:=hfit.1
  refine Cl_of (pol:=polL) Γok Tryz.func61 (by kernel_rfl) rfl ?_
  conv=>whnf
  intro b2
  conv=>whnf
  intro b4
  conv=>whnf
  refine (d88 c hfit _ _ ⟨_,rfl,hg⟩).val fun Ha sa=>?_
  conv=>whnf
  refine if_intro (fun h=>?_) (fun h=>?_)
  · conv=>whnf
    have h:circErr c ≠ 0:=by simpa using h
    have e:beginErr c v=circErr c:=if_pos h
    exact .inl ⟨by rw[e];exact h,by rw[e]⟩
  have h0:circErr c=0:=by simpa using h
  conv=>whnf
  refine (d44 v (by omega) _ _ (NumH.up hy sa)).val fun Hb sb=>?_
  replace sb:=sa.trans sb
  conv=>whnf
  refine if_intro (fun h=>?_) (fun h=>?_)
  · conv=>whnf
    have h:(wiresI v).2 ≠ 0:=by simpa using h
    have e:beginErr c v=(wiresI v).2:=by
      unfold beginErr
      rw[if_neg (by rw[h0];simp),wires_err]
      rw[wires_err] at h
      rw[if_pos h]
    exact .inl ⟨by rw[e];exact h,by rw[e]⟩
  have h1:stErr v=0:=by
    rw[← wires_err]
    simpa using h
  have ew:(wiresI v).1=sizeI v.length:=by unfold wiresI;rw[if_neg (by rw[h1];simp)]
  conv=>whnf
  refine if_intro (fun h=>?_) (fun h=>?_)
  · conv=>whnf
    have h:sizeI v.length ≠ c.wires:=by rw[← ew];simpa using h
    have e:beginErr c v=7:=by
      unfold beginErr
      rw[if_neg (by rw[h0];simp),if_neg (by rw[h1];simp),if_pos h]
    exact .inl ⟨by rw[e];decide,by rw[e]⟩
  have h2:sizeI v.length=c.wires:=by rw[← ew];simpa using h
  conv=>whnf
  refine W_loop (pol:=polL) Γok (Nat × PH) (fun i=>i.1≤c.gates.length∧Sub Hb i.2) (fun i=>c.gates.length - i.1) (fun i=>[(10,.v (.int .i64 (foundN (c.gates.take i.1)))),(36,.v (.int .i64 i.1))]) (fun _=>[]) (fun i=>i.2) (fun _=>emp) ⟨(0,Hb),⟨by simp,Sub.refl _⟩,rfl,rfl,?_⟩ ?_
  · conv=>whnf
    repeat (refine⟨rfl,?_⟩;conv=>whnf)
    exact trivial
  rintro ⟨i,Hi⟩ ⟨h1i,hsi⟩
  dsimp only at h1i hsi
  conv=>whnf
  refine if_intro (fun hci=>?_) (fun hci=>?_)
  · have hii:i < c.gates.length:=by
      have:=of_decide_eq_true hci
      omega
    have hle:=foundN_le c.gates i
    have hsi':=hsi
    obtain⟨b,off,w,wb,wc,rfl,hw,hrd,hwe⟩:=hg.rd hii
    subst hw
    have hb:=hrd Hi emp (sb.trans hsi')
    conv=>whnf
    refine dec_intro (by omega) ?_
    conv=>whnf
    refine⟨_,hb,?_⟩
    conv=>whnf
    intro b12
    conv=>whnf
    refine if_intro (fun h13=>?_) (fun h13=>?_)
    · conv=>whnf
      rw[wrap_id (n:=(foundN (c.gates.take i):Int)+1) (by omega) (by omega)]
      refine⟨(i+1,Hi),⟨by dsimp only;omega,hsi⟩,by dsimp only;omega,?_⟩
      refine⟨rfl,rfl,?_⟩
      dsimp only
      rw[foundN_snoc hii,show isM c.gates[i]=true by unfold isM;rw[h13]<;>rfl,if_pos rfl]
      conv=>whnf
      repeat (refine⟨rfl,?_⟩;conv=>whnf)
      refine⟨by show En.v (.int .i64 (IntKind.i64.wrap (i+1)))=_;rw[wrap_id (by omega) (by omega)]<;>rfl,?_⟩
      conv=>whnf
      repeat (refine⟨rfl,?_⟩;conv=>whnf)
      exact trivial
    conv=>whnf
    refine if_intro (fun h14=>?_) (fun h14=>?_)
    · conv=>whnf
      rw[wrap_id (n:=(foundN (c.gates.take i):Int)+1) (by omega) (by omega)]
      refine⟨(i+1,Hi),⟨by dsimp only;omega,hsi⟩,by dsimp only;omega,?_⟩
      refine⟨rfl,rfl,?_⟩
      dsimp only
      rw[foundN_snoc hii,show isM c.gates[i]=true by unfold isM;rw[h14,Bool.or_true],if_pos rfl]
      conv=>whnf
      repeat (refine⟨rfl,?_⟩;conv=>whnf)
      refine⟨by show En.v (.int .i64 (IntKind.i64.wrap (i+1)))=_;rw[wrap_id (by omega) (by omega)]<;>rfl,?_⟩
      conv=>whnf
      repeat (refine⟨rfl,?_⟩;conv=>whnf)
      exact trivial
    conv=>whnf
    refine⟨(i+1,Hi),⟨by dsimp only;omega,hsi⟩,by dsimp only;omega,?_⟩
    refine⟨rfl,rfl,?_⟩
    dsimp only
    rw[foundN_snoc hii,show isM c.gates[i]=false by unfold isM;rw[h13,h14]<;>rfl,if_neg (by simp),Nat.add_zero]
    conv=>whnf
    repeat (refine⟨rfl,?_⟩;conv=>whnf)
    refine⟨by show En.v (.int .i64 (IntKind.i64.wrap (i+1)))=_;rw[wrap_id (by omega) (by omega)]<;>rfl,?_⟩
    conv=>whnf
    repeat (refine⟨rfl,?_⟩;conv=>whnf)
    exact trivial
  have hii:i=c.gates.length:=by
    have:=of_decide_eq_false hci
    omega
  subst hii
  conv=>whnf
  rw[List.take_length]
  refine if_intro (fun h=>?_) (fun h=>?_)
  · conv=>whnf
    have h:foundN c.gates > 8:=by
      have:=of_decide_eq_true h
      omega
    have e:beginErr c v=2:=by
      unfold beginErr
      rw[if_neg (by rw[h0];simp),if_neg (by rw[h1];simp),if_neg (by rw[h2];simp),if_pos h]
    exact .inl ⟨by rw[e];decide,by rw[e]⟩
  have h3:¬ foundN c.gates > 8:=by
    have:=of_decide_eq_false h
    omega
  have e:beginErr c v=0:=by
    unfold beginErr
    rw[if_neg (by rw[h0];simp),if_neg (by rw[h1];simp),if_neg (by rw[h2];simp),if_neg h3]
  conv=>whnf
  intro bm hbm hOm
  conv=>whnf
  exact .inr ⟨e,bm,ins_same _ _ _,rfl⟩
end Go.Proofs.YtmhnalikebkhjaaGreatDoor

namespace Go.Proofs.YtmhnalikebkhjaaGreatDoor
open Go.Proofs.YtmhnalikebkhjaaGreatDoor.X Go.Proofs.YtmhnalikebkhjaaGreatDoor.X.PH
set_option maxRecDepth 100000
def subG (all : Bool) (run:Br→List Br × Int) (b:Br) (g:Gt) (o:Int):List Br × Int:=
  if all=false∧deadB (keptV b.state (wire0 g) o)=true then ([],0) else run (nextB b g o).1
def evC (sub : Int→List Br × Int):List Int→List Br × Int
  | []=>([],0)
  | o::os=>if (sub o).2 ≠ 0 then sub o else ((sub o).1++(evC sub os).1,(evC sub os).2)
def evG (all : Bool) (ch:Nat→List Int):List Gt→Br→List Br × Int
  | [],b=>if all=false∧deadB b.state=true then ([],0) else ([b],0)
  | g::gs,b=>
    if isM g=false then (if (nextB b g 0).2 ≠ 0 then ([],(nextB b g 0).2) else evG all ch gs (nextB b g 0).1)
    else evC (subG all (evG all ch gs) b g) (ch b.outs.length)
theorem evG_step {gs : List Gt} {i:Nat} (hi:i < gs.length) (all:Bool) (ch:Nat→List Int) (b:Br):evG all ch (gs.drop i) b =
    if isM gs[i]=false then (if (nextB b gs[i] 0).2 ≠ 0 then ([],(nextB b gs[i] 0).2) else evG all ch (gs.drop (i+1)) (nextB b gs[i] 0).1)
    else evC (subG all (evG all ch (gs.drop (i+1))) b gs[i]) (ch b.outs.length):=by
  rw[List.drop_eq_getElem_cons hi]
  rfl
def br0 : Br:=⟨[],0,[]⟩
def ysOf (p : List Br × Int):List (Br × Int):=(p.1.map fun b=>(b,(0:Int)))++if p.2 ≠ 0 then [(br0,p.2)] else []
def BrR (y : Br × Int) (x:List Value) (H:PH):Prop:=∃ c,x=[.agg ⟨c⟩,.int .i64 y.2]∧BrC H y.1 c
theorem BrC.zero (H : PH):BrC H br0 [.slice none 0 0,.int .i64 0,.slice none 0 0]:=⟨_,_,rfl,IntsC.nil H,nilV H⟩
theorem ysOf_pre (A : List Br) (X:List Br × Int):ysOf (A++X.1,X.2)=(A.map fun b=>(b,(0:Int)))++ysOf X:=by
  unfold ysOf
  rw[List.map_append,List.append_assoc]
theorem ysOf_sub (sub : Int→List Br × Int) (o:Int) (os:List Int):∃ T,ysOf (evC sub (o::os))=ysOf (sub o)++T:=by
  unfold evC
  by_cases h:(sub o).2 ≠ 0
  · rw[if_pos h];exact⟨[],by rw[List.append_nil]⟩
  · rw[if_neg h,ysOf_pre]
    have:ysOf (sub o)=(sub o).1.map fun b=>(b,(0:Int)):=by unfold ysOf;rw[if_neg h,List.append_nil]
    rw[this]
    exact⟨_,rfl⟩
theorem get_pre {α : Type} {A B:List α} {j:Nat} {y:α} (h:B[j]?=some y):(A++B)[A.length+j]?=some y:=by
  rw[List.getElem?_append_right (by omega),show A.length+j - A.length=j by omega]
  exact h
theorem get_left {α : Type} {A B:List α} {j:Nat} {y:α} (h:A[j]?=some y):(A++B)[j]?=some y:=by
  rw[List.getElem?_append_left (List.getElem?_eq_some_iff.1 h).1]
  exact h
def OpsI (H : PH) (o:Obj):Prop:=∃ es clk,o=.map ⟨es⟩ clk∧∀ n:Int,Instr.findNow (.int .i64) (.int .i64 n) es 0=some none∨∃ j u,Instr.findNow (.int .i64) (.int .i64 n) es 0=some (some (j,u))∧MatH H u (OfR n).1
theorem OpsI.o {H O : PH} {b:Nat} {o:Obj} (h:OpsI H o) (hb:O b=some o):OpsO H O b:=by
  obtain⟨es,clk,rfl,h⟩:=h
  exact⟨es,clk,hb,h⟩
theorem OpsO.i {H O : PH} {b:Nat} (h:OpsO H O b):∃ o,O b=some o∧OpsI H o:=by
  obtain⟨es,clk,hb,h⟩:=h
  exact⟨_,hb,es,clk,rfl,h⟩
theorem OpsI.up {H H' : PH} {o:Obj} (h:OpsI H o) (hs:Sub H H'):OpsI H' o:=by
  obtain⟨es,clk,rfl,h⟩:=h
  refine⟨es,clk,rfl,fun n=>(h n).imp id ?_⟩
  rintro ⟨j,u,h3,h4⟩
  exact⟨j,u,h3,h4.up hs⟩
def andNI (a b : Int):Int:=IntKind.i64.wrap (BitVec.ofInt IntKind.i64.bits a &&& ~~~ BitVec.ofInt IntKind.i64.bits b).toNat
theorem setB_all : ∀ bits < 256,∀ k < 8,∀ o < 2,orI (andNI (bits:Nat) (shlI 1 (k:Nat))) (shlI (o:Nat) (k:Nat))=setBR (bits:Nat) (k:Nat) (o:Nat):=by decide +kernel
theorem setB_in : ∀ m < 9,∀ bits < 2 ^ m,∀ k < m,∀ o < 2,0≤setBR (bits:Nat) (k:Nat) (o:Nat)∧setBR (bits:Nat) (k:Nat) (o:Nat) < (2 ^ m:Nat):=by decide +kernel
theorem Cl.pre {P : Program} {f:FuncId} {args:List Value} {H M H' M':PH} {Q:Value→PH→PH→Prop} (r:Repart H M H' M') (h:Cl P f args H' M' Q):Cl P f args H M Q:=by
  unfold Cl at *
  have hm':∀ n,M n=none→M' n=none:=fun n hm=>by
    cases e:M' n with
    | none=>rfl
    | some o=>rw[r.own n o e] at hm;cases hm
  refine⟨h.1,fun w hH hM hd=>(h.2 w (fun n o hn=>(r.from_ n o hn).elim (hH n o) (hM n o)) (In.sub hM r.own) r.dis).mono ?_⟩
  rintro e w' ⟨v,H'',M'',he,p,hq⟩
  refine⟨v,H'',M'',he,⟨r.sub.trans p.sub,p.inH,p.inM,p.dis,fun n hn hm=>?_,p.frm.mono fun n hn hm=>hm' n hm⟩,hq⟩
  obtain⟨h1,h2⟩:=p.old n hn (hm' n hm)
  refine⟨h1.trans ?_,h2⟩
  cases e:H' n with
  | some o=>
    rcases r.from_ n o e with h | h
    · exact h.symm
    · rw[hm] at h;cases h
  | none=>
    cases e2:H n with
    | none=>rfl
    | some o=>rw[r.sub n o e2] at e;cases e
end Go.Proofs.YtmhnalikebkhjaaGreatDoor

namespace Go.Proofs.YtmhnalikebkhjaaGreatDoor
open Go.Proofs.YtmhnalikebkhjaaGreatDoor.X Go.Proofs.YtmhnalikebkhjaaGreatDoor.X.PH
set_option maxRecDepth 100000
theorem one_mul_L {x : P4 × Int} (h:IsL x):MulR oneN x=(x,0):=by
  obtain⟨e,_⟩:=Mul_fits (x:=oneN) (y:=x) (by decide) h.ok
  have ep:pz oneN.1 x.1=x.1:=by
    unfold pz oneN
    apply P4.ext'<;>dsimp only<;>omega
  have ek:oneN.2+x.2=x.2:=by
    show (0:Int)+x.2=x.2
    omega
  rw[e,ep,ek]
  unfold fitsR
  rw[h.form,← checkF_checkR,h.ok,if_neg (by simp)]
theorem dotP_one {x : P4 × Int} (h:IsL x):dotP [(oneN,x)]=(x,0):=by
  have e:=dotP_snoc [] (oneN,x)
  rw[List.nil_append] at e
  rw[e,if_pos (show (dotP []).2=0 from rfl)]
  unfold dotStepR
  dsimp only
  rw[one_mul_L h]
  simp
theorem colsX : ∀ i,i < 2→colsL (opM 1) i 2=[1 - i]∧entry (opM 1) i (1 - i)=oneN:=by decide +kernel
def flX (g : Gt) (a:Nat):Nat:=cmbN (gwn g) (1 - (spl (gwn g) 1 a).1) 1 (spl (gwn g) 1 a).2
theorem vAt_mem {v : Vec} {b:Nat} (hb:b < v.length):vAt v b∈v:=by
  have:vAt v b=v[b]:=by simp[vAt,List.getD_eq_getElem?_getD,hb]
  rw[this]
  exact List.getElem_mem hb
theorem flX_lt {g : Gt} {n:Nat} (hok:GateOK (xGate g) n) (hl:g.ws.length=1) {a:Nat} (ha:a < 2 ^ n):flX g a < 2 ^ n∧flX g (flX g a)=a:=by
  obtain⟨w1,w2,w3⟩:=hok.wn
  have hn:=hok.n6
  have h6:2 ^ n≤2 ^ 6:=Nat.pow_le_pow_right (by decide) hn
  have w1:∀ j,gwn g j < 6:=w1
  have hd:∀ a b,a < b→b < 1→gwn g a ≠ gwn g b:=fun a b h1 h2=>by omega
  have hwn:∀ j,j < 1→gwn g j < n:=fun j hj=>(w2 j (by show j < g.ws.length;omega)).1
  obtain⟨s1,s2⟩:=spl_lt (gwn g) w1 1 a (by omega)
  have hrn:=spl_le (gwn g) w1 hd hn ha
  have hz:=spl_clear (gwn g) w1 hd (show a < 64 by omega)
  refine⟨cmb_lt _ _ 1 _ hrn fun j hj=>hwn j hj,?_⟩
  have e:spl (gwn g) 1 (flX g a)=(1 - (spl (gwn g) 1 a).1,(spl (gwn g) 1 a).2):=spl_cmb (gwn g) w1 (by decide) hd s2 (by omega) hz
  have e2:flX g (flX g a)=cmbN (gwn g) (1 - (spl (gwn g) 1 (flX g a)).1) 1 (spl (gwn g) 1 (flX g a)).2:=rfl
  rw[e2,e]
  dsimp only
  rw[show 1 - (1 - (spl (gwn g) 1 a).1)=(spl (gwn g) 1 a).1 by omega]
  exact cmb_spl (gwn g) w1 (by decide) hd (by omega)
theorem rowXg {v : Vec} {g:Gt} {n:Nat} (hok:GateOK (xGate g) n) (hl:g.ws.length=1) (hv:v.length=2 ^ n) (hL:∀ x∈v,IsL x) {a:Nat} (ha:a < v.length) :
    rowG v (xGate g) a=(vAt v (flX g a),0):=by
  have h1:rowG v (xGate g) a=dotP (rowL (opM 1) (gwn g) 1 v a 2):=by
    show dotP (rowL (opM 1) (gwn g) g.ws.length v a (2 ^ g.ws.length))=_
    rw[hl]
  have w1:∀ j,gwn g j < 6:=hok.wn.1
  have hn:=hok.n6
  have h6:2 ^ n≤2 ^ 6:=Nat.pow_le_pow_right (by decide) hn
  obtain⟨s1,s2⟩:=spl_lt (gwn g) w1 1 a (by omega)
  obtain⟨e1,e2⟩:=colsX (spl (gwn g) 1 a).1 (by omega)
  rw[h1]
  unfold rowL
  rw[e1,List.map_cons,List.map_nil,e2]
  exact dotP_one (hL _ (vAt_mem (by rw[hv];exact (flX_lt hok hl (by omega)).1)))
theorem doneX {v : Vec} {g:Gt} {n:Nat} (hok:GateOK (xGate g) n) (hl:g.ws.length=1) (hv:v.length=2 ^ n) (hL:∀ x∈v,IsL x):doneG v (xGate g)=((List.range v.length).map fun a=>vAt v (flX g a),0):=by
  rw[doneG_good fun a ha=>by rw[rowXg hok hl hv hL ha]]
  unfold outP
  congr 1
  apply List.map_congr_left
  intro a ha
  rw[rowXg hok hl hv hL (List.mem_range.1 ha)]
theorem dead_iff {v : Vec} (hL:∀ x∈v,IsL x):deadB v=true ↔ ∀ a,a < v.length→vAt v a=(P4.zero,0):=by
  rw[dead_eq hL,List.all_eq_true]
  constructor
  · intro h a ha
    exact eqN_iff.1 (h _ (vAt_mem ha))
  · intro h x hx
    obtain⟨a,ha,rfl⟩:=List.mem_iff_getElem.1 hx
    have:=h a ha
    have e:vAt v a=v[a]:=by simp[vAt,List.getD_eq_getElem?_getD,ha]
    rw[← e]
    exact eqN_iff.2 this
theorem deadX {v : Vec} {g:Gt} {n:Nat} (hok:GateOK (xGate g) n) (hl:g.ws.length=1) (hv:v.length=2 ^ n) (hL:∀ x∈v,IsL x):deadB (doneG v (xGate g)).1=deadB v:=by
  have e:=doneX hok hl hv hL
  have hL2:∀ x∈(doneG v (xGate g)).1,IsL x:=done_good (by rw[e])
  rw[Bool.eq_iff_iff,dead_iff hL2,dead_iff hL,e]
  dsimp only
  have hat:∀ a,a < v.length→vAt ((List.range v.length).map fun a=>vAt v (flX g a)) a=vAt v (flX g a):=fun a ha=>by
    simp[vAt,List.getD_eq_getElem?_getD,ha]
  rw[List.length_map,List.length_range]
  constructor
  · intro h a ha
    obtain⟨f1,f2⟩:=flX_lt hok hl (a:=a) (by omega)
    have:=h (flX g a) (by omega)
    rw[hat _ (by omega),f2] at this
    exact this
  · intro h a ha
    rw[hat a ha]
    exact h _ (by rw[hv];exact (flX_lt hok hl (by omega)).1)
theorem next_err {b : Br} {g:Gt} {o:Int} {n m i:Nat} (hg:RGate g n m) (hM:isM g=true) (hb:BrOK b n i):(nextB b g o).2=0:=by
  unfold isM at hM
  have hk:g.kind=13∨g.kind=14:=by simpa using hM
  obtain⟨h1,_,_,hx⟩:=hg.one hk
  unfold nextB
  by_cases h13:g.kind=13
  · rw[if_pos h13]
  rw[if_neg h13]
  rw[if_pos (hk.resolve_left h13)]
  split
  · rw[doneX hx h1 (by rw[kept_len];exact hb.len) (kept_good hb.chk _ _)]
  · rfl
theorem next_dead {b : Br} {g:Gt} {o:Int} {n m i:Nat} (hg:RGate g n m) (hM:isM g=true) (hb:BrOK b n i):deadB (nextB b g o).1.state=deadB (keptV b.state (wire0 g) o):=by
  unfold isM at hM
  have hk:g.kind=13∨g.kind=14:=by simpa using hM
  obtain⟨h1,_,_,hx⟩:=hg.one hk
  unfold nextB
  by_cases h13:g.kind=13
  · rw[if_pos h13]
  rw[if_neg h13]
  rw[if_pos (hk.resolve_left h13)]
  split
  · exact deadX hx h1 (by rw[kept_len];exact hb.len) (kept_good hb.chk _ _)
  · rfl
theorem runB_evG {n m : Nat}:∀ (gs:List Gt) (b:Br) (i:Nat),(∀ g∈gs,RGate g n m)→BrOK b n i→(evG false (fun _=>[0,1]) gs b).2=(runB gs b).2∧((runB gs b).2=0→(evG false (fun _=>[0,1]) gs b).1=(runB gs b).1)
  | [],b,i,_,_=>by
    unfold evG runB
    by_cases h:deadB b.state=true
    · rw[if_pos ⟨rfl,h⟩,if_pos h];exact⟨rfl,fun _=>rfl⟩
    · rw[if_neg (fun k=>h k.2),if_neg h];exact⟨rfl,fun _=>rfl⟩
  | g::gs,b,i,hgs,hb=>by
    have hg:=hgs g (List.mem_cons_self ..)
    have hgs':∀ g∈gs,RGate g n m:=fun g' h=>hgs g' (List.mem_cons_of_mem _ h)
    unfold evG runB
    by_cases hM:isM g=false
    · rw[if_pos hM,if_pos hM]
      by_cases he:(nextB b g 0).2 ≠ 0
      · rw[if_pos he,if_pos he];exact⟨rfl,fun _=>rfl⟩
      · rw[if_neg he,if_neg he]
        exact runB_evG gs _ (i+1) hgs' (hb.next (by simpa using he))
    · rw[if_neg hM,if_neg hM]
      have hM:isM g=true:=by simpa using hM
      have hs:∀ o,(subG false (evG false (fun _=>[0,1]) gs) b g o).2=(subR (runB gs) b g o).2∧((subR (runB gs) b g o).2=0→(subG false (evG false (fun _=>[0,1]) gs) b g o).1=(subR (runB gs) b g o).1):=fun o=>by
        have he:(nextB b g o).2=0:=next_err hg hM hb
        unfold subG subR
        rw[if_neg (show ¬ (nextB b g o).2 ≠ 0 by rw[he];simp),next_dead hg hM hb]
        by_cases hd:deadB (keptV b.state (wire0 g) o)=true
        · rw[if_pos ⟨rfl,hd⟩,if_pos hd];exact⟨rfl,fun _=>rfl⟩
        · rw[if_neg (fun k=>hd k.2),if_neg hd]
          exact runB_evG gs _ (i+1) hgs' (hb.next he)
      obtain⟨a1,a2⟩:=hs 0
      obtain⟨b1,b2⟩:=hs 1
      unfold evC evC evC
      by_cases h0:(subR (runB gs) b g 0).2 ≠ 0
      · rw[if_pos (by rw[a1];exact h0),if_pos h0]
        exact⟨a1,fun h=>absurd h h0⟩
      rw[if_neg (by rw[a1];exact h0),if_neg h0]
      have h0:(subR (runB gs) b g 0).2=0:=by simpa using h0
      by_cases h1:(subR (runB gs) b g 1).2 ≠ 0
      · rw[if_pos (by rw[b1];exact h1),if_pos h1]
        exact⟨b1,fun h=>absurd h h1⟩
      rw[if_neg (by rw[b1];exact h1),if_neg h1]
      have h1:(subR (runB gs) b g 1).2=0:=by simpa using h1
      refine⟨rfl,fun _=>?_⟩
      dsimp only
      rw[a2 h0,b2 h1,List.append_nil]
end Go.Proofs.YtmhnalikebkhjaaGreatDoor

namespace Go.Proofs.YtmhnalikebkhjaaGreatDoor
open Go.Proofs.YtmhnalikebkhjaaGreatDoor.X Go.Proofs.YtmhnalikebkhjaaGreatDoor.X.PH
set_option maxRecDepth 100000
def stepsB (l : List Int):List Gt→Br→Br × Int
  | [],b=>(b,0)
  | g::gs,b=>if (nextB b g (l.getD b.outs.length 0)).2 ≠ 0 then (br0,(nextB b g (l.getD b.outs.length 0)).2) else stepsB l gs (nextB b g (l.getD b.outs.length 0)).1
theorem stepsB_at {gs : List Gt} {i:Nat} (hi:i < gs.length) (l:List Int) (b:Br):stepsB l (gs.drop i) b =
    if (nextB b gs[i] (l.getD b.outs.length 0)).2 ≠ 0 then (br0,(nextB b gs[i] (l.getD b.outs.length 0)).2) else stepsB l (gs.drop (i+1)) (nextB b gs[i] (l.getD b.outs.length 0)).1:=by
  rw[List.drop_eq_getElem_cons hi]
  rfl
def is01 (o : Int):Bool:=(o == 0) || (o == 1)
def alongR (c : Ct) (v:Vec) (l:List Int):Br × Int:=
  if beginErr c v ≠ 0 then (br0,beginErr c v)
  else if l.length ≠ foundN c.gates then (br0,2)
  else if l.all is01=false then (br0,3)
  else if (stepsB l c.gates (startB v)).2 ≠ 0 then (br0,(stepsB l c.gates (startB v)).2)
  else if deadB (stepsB l c.gates (startB v)).1.state=true then (br0,6) else ((stepsB l c.gates (startB v)).1,0)
theorem next_un {b : Br} {g:Gt} (h:isM g=false) (o:Int):nextB b g o=nextB b g 0:=by
  unfold isM at h
  have h13:¬ g.kind=13:=fun e=>by rw[e] at h;simp at h
  have h14:¬ g.kind=14:=fun e=>by rw[e] at h;simp at h
  unfold nextB
  rw[if_neg h13,if_neg h14,if_neg h13,if_neg h14]
theorem evC_one {sub : Int→List Br × Int} {o:Int}:evC sub [o]=sub o:=by
  unfold evC evC
  split
  · rfl
  · rename_i h
    have h:(sub o).2=0:=by simpa using h
    exact Prod.ext (List.append_nil _) h.symm
theorem evG_along {n m : Nat} (l:List Int):∀ (gs:List Gt) (b:Br) (i:Nat),(∀ g∈gs,RGate g n m)→BrOK b n i→evG true (fun k=>[l.getD k 0]) gs b=if (stepsB l gs b).2 ≠ 0 then ([],(stepsB l gs b).2) else ([(stepsB l gs b).1],0)
  | [],b,_,_,_=>by
    unfold evG stepsB
    simp
  | g::gs,b,i,hgs,hb=>by
    have hg:=hgs g (List.mem_cons_self ..)
    have hgs':∀ g∈gs,RGate g n m:=fun g' h=>hgs g' (List.mem_cons_of_mem _ h)
    unfold evG stepsB
    by_cases hM:isM g=false
    · rw[if_pos hM,next_un hM (l.getD b.outs.length 0)]
      by_cases he:(nextB b g 0).2 ≠ 0
      · rw[if_pos he,if_pos he,if_pos he]
      · rw[if_neg he,if_neg he]
        exact evG_along l gs _ (i+1) hgs' (hb.next (by simpa using he))
    · rw[if_neg hM,evC_one]
      have he:(nextB b g (l.getD b.outs.length 0)).2=0:=next_err hg (by simpa using hM) hb
      unfold subG
      rw[if_neg (by simp),if_neg (show ¬ (nextB b g (l.getD b.outs.length 0)).2 ≠ 0 by rw[he];simp)]
      exact evG_along l gs _ (i+1) hgs' (hb.next he)
theorem next_outs {b : Br} {g:Gt} {o:Int} (h:isM g=true):(nextB b g o).1.outs=b.outs++[o]:=by
  unfold nextB isM at *
  by_cases h1:g.kind=13
  · rw[if_pos h1]
  · have h2:g.kind=14:=by simpa[h1] using h
    rw[if_neg h1,if_pos h2]
    split<;>rfl
theorem next_outs_un {b : Br} {g:Gt} {o:Int} (h:isM g=false):(nextB b g o).1.outs=b.outs:=by
  unfold isM at h
  have h13:¬ g.kind=13:=fun e=>by rw[e] at h;simp at h
  have h14:¬ g.kind=14:=fun e=>by rw[e] at h;simp at h
  unfold nextB
  rw[if_neg h13,if_neg h14]
  split<;>rfl
theorem steps_outs (l : List Int):∀ (gs:List Gt) (b:Br) (k:Nat),b.outs=l.take k→k+foundN gs=l.length→(stepsB l gs b).2=0→(stepsB l gs b).1.outs=l
  | [],b,k,hb,hk,_=>by
    show b.outs=l
    rw[hb,show k=l.length by simpa[foundN] using hk,List.take_length]
  | g::gs,b,k,hb,hk,he=>by
    rw[foundN_cons] at hk
    unfold stepsB at he ⊢
    have hkl:k≤l.length:=by omega
    have hbl:b.outs.length=k:=by rw[hb,List.length_take];omega
    by_cases hn:(nextB b g (l.getD b.outs.length 0)).2 ≠ 0
    · rw[if_pos hn] at he;exact absurd he hn
    rw[if_neg hn] at he ⊢
    by_cases hM:isM g=true
    · rw[if_pos hM] at hk
      refine steps_outs l gs _ (k+1) ?_ (by omega) he
      rw[next_outs hM,hbl,hb,List.take_succ_eq_append_getElem (show k < l.length by omega),List.getD_eq_getElem?_getD,List.getElem?_eq_getElem (show k < l.length by omega)]
      rfl
    · rw[if_neg hM] at hk
      exact steps_outs l gs _ k (by rw[next_outs_un (by simpa using hM)];exact hb) (by omega) he
def bitOK (m : Nat) (b:Br):Prop:=0≤b.bits∧b.bits < (2 ^ m:Nat)
theorem next_bit {b : Br} {g:Gt} {o:Int} {n m:Nat} (hg:RGate g n m) (h:bitOK m b) (ho:o=0∨o=1):bitOK m (nextB b g o).1:=by
  unfold nextB
  split
  · rename_i hk
    obtain⟨b0,b1⟩:=hg.bit hk
    obtain⟨h0,h1⟩:=h
    have h8:=hg.b8
    have:=setB_in m (by omega) b.bits.toNat (by omega) g.bit.toNat (by omega) o.toNat (by omega)
    rw[show ((b.bits.toNat:Nat):Int)=b.bits by omega,show ((g.bit.toNat:Nat):Int)=g.bit by omega,show ((o.toNat:Nat):Int)=o by omega] at this
    exact this
  · split
    · split
      · exact h
      · exact h
    · split
      · exact h
      · exact h
end Go.Proofs.YtmhnalikebkhjaaGreatDoor

namespace Go.Proofs.YtmhnalikebkhjaaGreatDoor
open Go.Proofs.YtmhnalikebkhjaaGreatDoor.X Go.Proofs.YtmhnalikebkhjaaGreatDoor.X.PH
set_option maxRecDepth 100000
structure PathOK (l os : List Int):Prop where
  len:l.length=8
  le:os.length≤8
  eq:l.take os.length=os
theorem PathOK.next {l os : List Int} (h:PathOK l os) (hlt:os.length < 8) (o:Int):PathOK (l.set os.length o) (os++[o]):=by
  refine⟨by rw[List.length_set];exact h.len,by rw[List.length_append];exact hlt,?_⟩
  have hl:=h.len
  rw[List.length_append,List.length_singleton,List.take_succ_eq_append_getElem (by rw[List.length_set];omega),List.getElem_set_self,List.take_set_of_le (Nat.le_refl _),h.eq]
def adr (b : Nat):Value:=.pointer (some ⟨b,0,none⟩)
structure RunH (H : PH) (l rb yb cb:Nat) (c:Ct) (gs chf:Value) (bm:Nat) (all:Bool) (ch:Nat→List Int):Prop where
  run:∃ t fr,H rb=some (.cells ⟨runCells c gs bm chf all⟩ t fr)
  yl:∃ t fr,H yb=some (.cells ⟨[.func (.yield l) #[] #[]]⟩ t fr)
  cl:∃ t fr,H cb=some (.cells ⟨[.func (.func 104) #[] #[adr rb,adr yb,adr cb]]⟩ t fr)
  gates:GatesH H gs c.gates
  cho:∀ lp os,PathOK lp os→os.length < foundN c.gates→Does Tryz.prog H chf [pv lp os.length] fun r H'=>IntsH H' r (ch os.length)
theorem RunH.up {H H' : PH} {l rb yb cb:Nat} {c:Ct} {gs chf:Value} {bm:Nat} {all:Bool} {ch:Nat→List Int} (h:RunH H l rb yb cb c gs chf bm all ch) (hs:Sub H H'):RunH H' l rb yb cb c gs chf bm all ch:=by
  obtain⟨⟨t1,f1,h1⟩,⟨t2,f2,h2⟩,⟨t3,f3,h3⟩,h4,h5⟩:=h
  exact⟨⟨t1,f1,hs _ _ h1⟩,⟨t2,f2,hs _ _ h2⟩,⟨t3,f3,hs _ _ h3⟩,h4.up hs,fun lp os a b=>(h5 lp os a b).up hs⟩
theorem evC_cons (sub : Int→List Br × Int) (o:Int) (os:List Int):evC sub (o::os)=if (sub o).2 ≠ 0 then sub o else ((sub o).1++(evC sub os).1,(evC sub os).2):=rfl
theorem Cl.args {P : Program} {f:FuncId} {l l':List Value} {H M:PH} {Q:Value→PH→PH→Prop} (h:l=l') (hc:Cl P f l H M Q):Cl P f l' H M Q:=h ▸ hc
theorem opsK_one {Γ : TypeId→TI} {P:Program} {pol:Tmp→Pol} {ops rest:List Oper} {x:Oper} {s:S} {K:S→Prop}
    (h:∀ K1:S→Prop,(∀ s1,opsK Γ P pol ops rest s1 K=K1 s1)→opsK Γ P pol ops [x] s K1):opsK Γ P pol ops (x::rest) s K:=by
  have:=h _ fun _=>rfl
  obtain⟨d,o,t,p,a,g⟩:=x
  obtain⟨env,loc,H,O⟩:=s
  exact this
theorem overK8 {a0 a1 a2 a3 a4 a5 a6 a7 o : Int} {m:Value} {n:Nat} {K:List Value→Prop} (hn:n < 8)
    (h:∀ x0 x1 x2 x3 x4 x5 x6 x7,[a0,a1,a2,a3,a4,a5,a6,a7].set n o=[x0,x1,x2,x3,x4,x5,x6,x7]→K [.int .i64 x0,.int .i64 x1,.int .i64 x2,.int .i64 x3,.int .i64 x4,.int .i64 x5,.int .i64 x6,.int .i64 x7,m]) :
    overK [.int .i64 a0,.int .i64 a1,.int .i64 a2,.int .i64 a3,.int .i64 a4,.int .i64 a5,.int .i64 a6,.int .i64 a7,m] n [.int .i64 o] K:=by
  rcases (show n=0∨n=1∨n=2∨n=3∨n=4∨n=5∨n=6∨n=7 by omega) with rfl | rfl | rfl | rfl | rfl | rfl | rfl | rfl
  all_goals exact h _ _ _ _ _ _ _ _ rfl
theorem not_true {b : Bool} (h:(!b)=true):b=false:=by cases b<;>simp_all
theorem neq_of {a b : Int} (h:(a != b)=true):a ≠ b:=by simpa using h
theorem eq_of_neq {a b : Int} (h:(a != b)=false):a=b:=by simpa using h
theorem ne_of_beq_false {a b : Int} (h:(a == b)=false):a ≠ b:=by simpa using h
theorem bit_or : ∀ bits < 256,∀ k < 8,andI (shrI (bits:Nat) (k:Nat)) 1=0∨andI (shrI (bits:Nat) (k:Nat)) 1=1:=by decide +kernel
theorem onB_zero {g : Gt} {bits:Int} (h:g.cond=0):onB g bits=true:=by
  unfold onB
  rw[h]
  rfl
theorem onB_no {g : Gt} {bits:Int} (h:g.cond > 0) (_:g.cond≤8) (hz:andI (shrI bits (g.cond - 1)) 1=0):¬ onB g bits=true:=by
  unfold onB bitB
  rw[hz,beq_eq_false_iff_ne.2 (show g.cond ≠ 0 by omega)]
  decide
theorem onB_yes {g : Gt} {m:Nat} {b:Br} (h:g.cond > 0) (hb:bitOK m b) (h8:g.cond≤m) (hm:m≤8) (hz:andI (shrI b.bits (g.cond - 1)) 1 ≠ 0):onB g b.bits=true:=by
  obtain⟨h0,h1⟩:=hb
  have p8:2 ^ m≤2 ^ 8:=Nat.pow_le_pow_right (by decide) hm
  have:=bit_or b.bits.toNat (by omega) (g.cond - 1).toNat (by omega)
  rw[show ((b.bits.toNat:Nat):Int)=b.bits by omega,show (((g.cond - 1).toNat:Nat):Int)=g.cond - 1 by omega] at this
  have e:=this.resolve_left hz
  unfold onB bitB
  rw[e,Bool.or_eq_true]
  exact .inr rfl
theorem setB_eq {g : Gt} {n m:Nat} {b:Br} {o:Int} (hg:RGate g n m) (hk:g.kind=13) (hb:bitOK m b) (ho:o=0∨o=1):orI (andNI b.bits (shlI 1 g.bit)) (shlI o g.bit)=setBR b.bits g.bit o:=by
  obtain⟨b0,b1⟩:=hg.bit hk
  have h8:=hg.b8
  obtain⟨h0,h1⟩:=hb
  have p8:2 ^ m≤2 ^ 8:=Nat.pow_le_pow_right (by decide) h8
  have:=setB_all b.bits.toNat (by omega) g.bit.toNat (by omega) o.toNat (by omega)
  rw[show ((b.bits.toNat:Nat):Int)=b.bits by omega,show ((g.bit.toNat:Nat):Int)=g.bit by omega,show ((o.toNat:Nat):Int)=o by omega] at this
  exact this
end Go.Proofs.YtmhnalikebkhjaaGreatDoor

namespace Go.Proofs.YtmhnalikebkhjaaGreatDoor
open Go.Proofs.YtmhnalikebkhjaaGreatDoor.X Go.Proofs.YtmhnalikebkhjaaGreatDoor.X.PH
set_option maxRecDepth 100000
theorem OwnS.upS {O O' : PH} {sz:Nat} {t:TypeId} {v:Value} {xs:List (List Value)} (h:OwnS O sz t v xs) (hs:Sub O O'):OwnS O' sz t v xs:=OwnS.keep h fun n _ hn=>hs n _ hn
theorem own_new {H H' M' : PH} (hs:Sub H H') (hd:Dis H' M'):Sub M' (newH H (un H' M')):=fun n o hn=>by
  have h1:H' n=none:=(hd n).resolve_right (by rw[hn];simp)
  exact newH_some (fresh_of hs h1) (un_right hd hn)
abbrev NumW (Hp H : PH) (v:Value) (l:Vec):Prop:=NumO (newH Hp H) v l
abbrev IntsW (Hp H : PH) (v:Value) (l:List Int):Prop:=IntsO (newH Hp H) v l
theorem NumW.up {Hp H H' : PH} {v:Value} {l:Vec} (h:NumW Hp H v l) (hs:Sub H H'):NumW Hp H' v l:=OwnS.upS h (newH_up hs)
theorem NumW.base {Hp H1 H : PH} {v:Value} {l:Vec} (h:NumW H1 H v l) (hs:Sub Hp H1):NumW Hp H v l:=OwnS.upS h (newH_base hs)
theorem IntsW.up {Hp H H' : PH} {v:Value} {l:List Int} (h:IntsW Hp H v l) (hs:Sub H H'):IntsW Hp H' v l:=OwnS.upS h (newH_up hs)
theorem IntsW.base {Hp H1 H : PH} {v:Value} {l:List Int} (h:IntsW H1 H v l) (hs:Sub Hp H1):IntsW Hp H v l:=OwnS.upS h (newH_base hs)
theorem NumW.num {Hp H : PH} {v:Value} {l:Vec} (h:NumW Hp H v l):NumH H v l:=by
  have:=NumO.share (H:=emp) h (fun n=>.inl rfl)
  exact NumH.up this fun n o hn=>by
    have:newH Hp H n=some o:=by simpa[un,emp] using hn
    exact newH_sub _ _ n o this
theorem IntsW.c {Hp H : PH} {v:Value} {l:List Int} (h:IntsW Hp H v l):IntsC H v l:=by
  obtain⟨h1,h2⟩:=h
  rcases h2 with⟨rfl,h2⟩ | ⟨b,cap,sp,rfl,h2,h3,h4⟩
  · have:l=[]:=by simpa using h2
    rw[this]
    exact IntsC.nil H
  · rw[List.length_map] at h3 ⊢
    refine⟨some ⟨b,0,none⟩,cap,rfl,h3,some ⟨b,0,none⟩,cap,rfl,.inr ⟨b,0,_,_,_,rfl,newH_sub _ _ _ _ h2,?_⟩⟩
    rw[flat_oneI]
    simp
theorem c16w (l : List Int) (hlen:l.length≤100000) (H:PH) (v:Value) (hv:IntsH H v l):Cl Tryz.prog 12 [v] H emp fun r H' _=>IntsW H H' r l:=
  (c16 l hlen H v hv).repart fun _ _ _ hs hd h=>⟨_,_,.all hd,OwnS.upS h (own_new hs hd)⟩
theorem d79n (v : Vec) (w:Nat) (x:Int) (hv:v.length≤64) (hw:w < 6) (H:PH) (u:Value) (hu:NumH H u v):Cl Tryz.prog 79 [u,.int .i64 w,.int .i64 x] H emp fun r H' _=>NumW H H' r (keptV v w x):=by
  refine (d79x v w x hv hw H u hu).repart fun r H' M' hs hd h=>?_
  obtain⟨b,rfl,hM⟩:=h
  have hn:NumO M' (.slice (some ⟨b,0,none⟩) v.length v.length) (keptV v w x):=vec_own' hM (by rw[kept_len])
  exact⟨_,_,.all hd,OwnS.upS hn (own_new hs hd)⟩
theorem d95n (v : Vec) (hlen:v.length < 1000000) (H:PH) (x:Value) (hx:NumH H x v):Cl Tryz.prog 95 [x] H emp fun r H' _=>NumW H H' r (leastV v):=
  (d95 v hlen H x hx).repart fun _ _ _ hs hd h=>⟨_,_,.all hd,OwnS.upS h (own_new hs hd)⟩
theorem d78n (v : Vec) (g:Gt) (n:Nat) (hok:GateOK g n) (hv:v.length=2 ^ n) (b:Nat) (H O:PH) (o:Obj) (ho:O b=some o) (hops:OpsI H o) (x w:Value) (hx:NumH H x v) (hw:IntsC H w g.ws):Cl Tryz.prog 78 [.map (some b),x,gv g w] H O fun r H' O'=>(∃ u,r=.tuple #[u,.int .i64 (doneG v g).2]∧NumW H H' u (doneG v g).1)∧∃ o',O'=ins O b o'∧OpsI H' o':=by
  refine (d78 v g n hok hv b H O (hops.o ho) x w hx hw).repart fun r H' O' hs hd h=>?_
  obtain⟨u,ob,e,hu,hf,hops',hk⟩:=h
  obtain⟨o',eo,hi⟩:=hops'.i
  have hsub:Sub (ins O b o') O':=fun n q hn=>by
    by_cases hnb:n=b
    · subst hnb;rw[ins_same] at hn;cases hn;exact eo
    · rw[ins_ne _ _ hnb] at hn;exact hk n q hn hnb
  obtain⟨hu1,hu2⟩:=hu
  rcases hu2 with⟨e1,e2,e3⟩ | ⟨bw,cap,sp,e1,e2,hO,q1,q2⟩
  · refine⟨H',ins O b o',⟨Sub.refl _,hsub,fun _ _ h=>.inl h,fun n=>?_⟩,⟨u,e,hu1,.inl ⟨e2,e3⟩⟩,o',rfl,hi⟩
    cases hh:ins O b o' n with
    | none=>exact .inr rfl
    | some q=>exact .inl ((hd n).resolve_right (by rw[hsub n q hh];simp))
  · have hbw:=hf bw e1
    have hne:bw ≠ b:=fun e=>by rw[e,ho] at hbw;cases hbw
    have hH':H' bw=none:=(hd bw).resolve_right (by rw[hO];simp)
    have rp:=Repart.one hd hO
    refine⟨_,ins O b o',⟨rp.sub,hsub,rp.from_,fun n=>?_⟩,⟨u,e,hu1,.inr ⟨bw,cap,sp,e2,newH_some (fresh_of hs hH') (ins_same _ _ _),q1,q2⟩⟩,o',rfl,hi.up rp.sub⟩
    cases hh:ins O b o' n with
    | none=>exact .inr rfl
    | some q=>
      have hnb:n ≠ bw:=fun e=>by
        subst e
        rw[ins_ne _ _ hne,hbw] at hh
        cases hh
      refine .inl ?_
      rw[ins_ne _ _ hnb]
      exact (hd n).resolve_right (by rw[hsub n q hh];simp)
theorem d105n (l os : List Int) (hl:l.length=8) (ho:os.length≤8) (e:l.take os.length=os) (H:PH):Cl Tryz.prog 105 [pv l os.length] H emp fun r H' _=>IntsW H H' r os:=by
  obtain⟨a0,a1,a2,a3,a4,a5,a6,a7,rfl⟩:=eight hl
  refine Cl_of (pol:=(fun | 1=>.imm | _=>.loc)) Γok Tryz.func105 (by kernel_rfl) rfl ?_
  conv=>whnf
  intro b1 hb1 hO1
  conv=>whnf
  refine if_intro (fun h=>?_) (fun h=>?_)
  · conv=>whnf
    have:os=[]:=by
      have:(os.length:Int)=0:=by simpa using h
      exact List.length_eq_zero_iff.1 (by omega)
    rw[this]
    exact⟨by simp,.inl ⟨rfl,rfl⟩⟩
  conv=>whnf
  refine dec_intro (show ((os.length:Int)≤((8:Nat):Int)) by omega) ?_
  conv=>whnf
  refine (c16w os (by omega) _ _ ⟨_,_,rfl,.inr ⟨b1,0,_,_,_,rfl,ins_same _ _ _,?_⟩⟩).use fun r Ha sa hr=>?_
  · show ([Value.int .i64 a0,.int .i64 a1,.int .i64 a2,.int .i64 a3,.int .i64 a4,.int .i64 a5,.int .i64 a6,.int .i64 a7,.int .i64 os.length].take _)=_
    have:([Value.int .i64 a0,.int .i64 a1,.int .i64 a2,.int .i64 a3,.int .i64 a4,.int .i64 a5,.int .i64 a6,.int .i64 a7,.int .i64 os.length]:List Value)=([a0,a1,a2,a3,a4,a5,a6,a7].map fun a=>Value.int .i64 a)++[.int .i64 os.length]:=rfl
    rw[this,List.take_append_of_le_length (by simp;exact ho),List.length_map,← List.map_take,e]
  obtain⟨_,hr⟩:=hr
  obtain⟨rb,rc,rfl,_⟩:=IntsW.c hr
  conv=>whnf
  exact IntsW.base hr (sub_ins H _ hb1)
def BrN (y : Br × Int) (x:List Value) (Hp H:PH):Prop:=∃ ov sv,x=[.agg ⟨[ov,.int .i64 y.1.bits,sv]⟩,.int .i64 y.2]∧IntsW Hp H ov y.1.outs∧NumW Hp H sv y.1.state
theorem BrN.r {y : Br × Int} {x:List Value} {Hp H:PH} (h:BrN y x Hp H):BrR y x H:=by
  obtain⟨ov,sv,e,h1,h3⟩:=h
  exact⟨_,e,ov,sv,rfl,IntsW.c h1,NumW.num h3⟩
theorem nilW (Hp H : PH):NumW Hp H (.slice none 0 0) []:=⟨by simp,.inl ⟨rfl,rfl⟩⟩
theorem BrN.zero (e : Int) (Hp H:PH):BrN (br0,e) [.agg ⟨[.slice none 0 0,.int .i64 0,.slice none 0 0]⟩,.int .i64 e] Hp H:=⟨_,_,rfl,⟨by simp[br0],.inl ⟨rfl,rfl⟩⟩,nilW Hp H⟩
end Go.Proofs.YtmhnalikebkhjaaGreatDoor
