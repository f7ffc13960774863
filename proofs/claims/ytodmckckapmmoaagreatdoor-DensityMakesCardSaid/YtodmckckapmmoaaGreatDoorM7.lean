/- A logic for code of the model, proved sound, and what functions do that the laws on matrices come to; nothing is asked. Part 7. -/
import Derived.Test.YtodmckckapmmoaaGreatDoorM6
import Derived.LaidMore
import Derived.ProofKit
import Derived.Stop.Joined
import Derived.Test.YtodmckckapmmoaaGreatDoorRows

set_option linter.unusedVariables false
set_option linter.unusedSimpArgs false
set_option linter.unnecessarySimpa false

namespace Go.Proofs.YtodmckckapmmoaaGreatDoor
open Go.Proofs.YtodmckckapmmoaaGreatDoor.X Go.Proofs.YtodmckckapmmoaaGreatDoor.X.PH
set_option maxRecDepth 100000
def polAw : Tmp→Pol:=fun | 28=>.imm | 46=>.imm | 75=>.imm | 77=>.imm | 86=>.imm | 90=>.imm | 147=>.imm | 150=>.imm | 151=>.imm | 162=>.imm | 180=>.imm | 195=>.imm | 205=>.imm | 217=>.imm | 220=>.imm | 221=>.imm | _=>.loc
def GlobH (H : PH):Prop:=Rd H emp ⟨0,0,none⟩ 5 [.int .i64 1,.int .i64 0,.int .i64 0,.int .i64 0,.int .i64 2]∧Rd H emp ⟨1,0,none⟩ 5 [.int .i64 1,.int .i64 0,.int .i64 0,.int .i64 0,.int .i64 1]
theorem GlobH.up {H H' : PH} (h:GlobH H) (hs:Sub H H'):GlobH H':=⟨Rd_up h.1 hs,Rd_up h.2 hs⟩
theorem ints_c {H : PH} {b:Nat} {l:List Int} {n:Nat} {fr:Nat × Nat} (hb:H b=some (.cells ⟨l.map fun x=>.int .i64 x⟩ 3 fr)) (hn:n=l.length:=by rfl):IntsC H (.slice (some ⟨b,0,none⟩) n n) l:=by
  subst hn
  exact⟨_,_,rfl,Nat.le_refl _,⟨_,_,rfl,.inr ⟨b,0,_,_,_,rfl,hb,by simp[List.take_of_length_le]⟩⟩⟩
theorem gates_of {H : PH} {b n cap:Nat} {t:TypeId} {fr:Nat × Nat} {gs:List Gt} (cs:List (List Value)) (sp:List Value) (hb:H b=some (.cells ⟨cs.flatten++sp⟩ t fr)) (hl:cs.length=gs.length) (hn:n=gs.length) (hc:∀ (i:Nat) g c,gs[i]?=some g→cs[i]?=some c→GateC H g c):GatesH H (.slice (some ⟨b,0,none⟩) n cap) gs:=by
  subst hn
  refine⟨cs,hl,⟨fun c hcm=>?_,⟨_,_,by rw[hl],.inr ⟨b,0,_,_,_,rfl,hb,by simp⟩⟩⟩,hc⟩
  obtain⟨i,hi,rfl⟩:=List.mem_iff_getElem.1 hcm
  obtain⟨w,e,_⟩:=hc i _ _ (List.getElem?_eq_getElem (by omega)) (List.getElem?_eq_getElem hi)
  rw[e]
  rfl
theorem gates1 {H : PH} {b cap:Nat} {t:TypeId} {fr:Nat × Nat} {g1:Gt} {w1:Value} (hb:H b=some (.cells ⟨[.int .i64 g1.kind,w1,.int .i64 g1.bit,.int .i64 g1.cond]⟩ t fr)) (h1:IntsC H w1 g1.ws):GatesH H (.slice (some ⟨b,0,none⟩) 1 cap) [g1]:=
  gates_of [[.int .i64 g1.kind,w1,.int .i64 g1.bit,.int .i64 g1.cond]] [] (by simpa using hb) rfl rfl fun i g c hg hc=>by
    match i with
    | 0=>cases hg;cases hc;exact⟨_,rfl,h1⟩
theorem e50h (l : Vec) (m:Mx) (h:diagR (fun p=>l.getD p (P4.zero,0)) l.length l.length=m) (hl:l.length < 1000) (H:PH) (v:Value) (hv:NumH H v l):Cl Tryz.prog 50 [v] H emp fun r H' _=>MatH H' r m:=
  (e50 l hl H v hv).repart fun r H' M' _ hd hq=>by
    rw[h] at hq
    exact⟨_,_,.all hd,OwnQ.share hd hq⟩
theorem OutH.of {H : PH} {r:Value} {x y:Mx × Int} (h:OutH H r x) (e:x=y):OutH H r y:=e ▸ h
inductive As where
  | any
  | eq (v:Value)
  | mat (m:Mx)
  | num (l:Vec)
  | out (x:Mx × Int)
def As.holds (H : PH) (x:Value):As→Prop
  | .any=>True
  | .eq v=>x=v
  | .mat m=>MatH H x m
  | .num l=>(∃ b,x=.slice (some ⟨b,0,none⟩) l.length l.length)∧NumH H x l
  | .out y=>OutH H x y
theorem As.up {H H' : PH} {x:Value} {s:As} (h:s.holds H x) (hs:Sub H H'):s.holds H' x:=by
  cases s with
  | any=>exact trivial
  | eq v=>exact h
  | mat m=>exact MatH.up h hs
  | num l=>exact⟨h.1,NumH.up h.2 hs⟩
  | out y=>
    obtain⟨u,e,h⟩:=h
    exact⟨u,e,h.up hs⟩
def As.yes : As→Bool
  | .eq (.bool b)=>b
  | _=>false
theorem As.yes_eq {H : PH} {x:Value} {s:As} (h:s.holds H x) (hy:s.yes=true):x=.bool true:=by
  unfold As.yes at hy
  split at hy
  · subst hy;exact h
  · cases hy
def AsS (sps : List As):Nat→Value→PH→Prop:=fun i x H=>(sps.getD i .any).holds H x
theorem AsS.up {sps : List As} {i:Nat} {x:Value} {H H':PH} (h:AsS sps i x H) (hs:Sub H H'):AsS sps i x H':=As.up h hs
def guardsMet (ops : List Oper) (sps:List As):Bool:=ops.all fun o=>match o.guard with
  | none=>true
  | some (g,b)=>b && (sps.getD g .any).yes
theorem guards_met {ops : List Oper} {sps:List As} (h:guardsMet ops sps=true) {H1 O1:PH} (i:Nat) (o:Oper) (g:Nat) (b:Bool) (ho:ops[i]?=some o) (hg:o.guard=some (g,b)) (L:Nat→Bool) (V:Nat→Value) (H' O':PH) (hI:MI H1 O1 (AsS sps) L V H' O') (hL:L g=true):V g=.bool b:=by
  have:=List.all_eq_true.1 h o (List.mem_of_getElem? ho)
  rw[hg] at this
  simp only[Bool.and_eq_true] at this
  rw[this.1]
  exact As.yes_eq (hI.sp g hL) this.2
def mBad : Mx:=[[nu 0 0,nu 1 0],[nu 0 0,nu 0 0]]
def spR12 : List As:=[.eq (.agg ⟨[.int .i64 1,.int .i64 0,.int .i64 0,.int .i64 0,.int .i64 0]⟩),.eq (.agg ⟨[.int .i64 0,.int .i64 0,.int .i64 0,.int .i64 0,.int .i64 0]⟩),.num [nu 1 0,nu 0 0],.mat mOne,.eq (.agg ⟨[.int .i64 0,.int .i64 0,.int .i64 0,.int .i64 0,.int .i64 0]⟩),.eq (.agg ⟨[.int .i64 1,.int .i64 0,.int .i64 0,.int .i64 0,.int .i64 0]⟩),.num [nu 0 0,nu 1 0],.mat mTwo,.eq (.agg ⟨[.int .i64 1,.int .i64 0,.int .i64 0,.int .i64 0,.int .i64 2]⟩),.eq (.agg ⟨[.int .i64 1,.int .i64 0,.int .i64 0,.int .i64 0,.int .i64 2]⟩),.out (mHalf,0),.out (mHalf,0),.mat mHalf,.eq (.int .i64 0),.mat mHalf,.eq (.int .i64 0)]
def spR15 (lb lo lc : Nat):List As:=[.mat mFull,.eq (.agg ⟨[.int .i64 1,.int .i64 0,.int .i64 0,.int .i64 0,.int .i64 2]⟩),.eq (.agg ⟨[.int .i64 1,.int .i64 0,.int .i64 0,.int .i64 0,.int .i64 2]⟩),.num [nu 1 2,nu 1 2],.eq (.agg ⟨[.int .i64 1,.int .i64 0,.int .i64 0,.int .i64 0,.int .i64 2]⟩),.eq (.agg ⟨[.int .i64 1,.int .i64 0,.int .i64 0,.int .i64 0,.int .i64 2]⟩),.num [nu 1 2,nu 1 2],.mat mFull,.eq (.bool true),.eq (.bool true),.mat mHalf,.mat mHalf,.eq (.bool true),.eq (.bool true),.eq (.bool true),.mat mHalf,.eq (.agg ⟨[.int .i64 1,.int .i64 0,.int .i64 0,.int .i64 0,.int .i64 2]⟩),.eq (.agg ⟨[.int .i64 1,.int .i64 0,.int .i64 0,.int .i64 0,.int .i64 2]⟩),.num [nu 1 2,nu 1 2],.mat mHalf,.eq (.bool true),.eq (.bool true),.eq (.bool true),.mat mHalf,.mat mHalf,.eq (.bool true),.eq (.bool true),.eq (.bool true),.eq (.agg ⟨[.int .i64 1,.int .i64 0,.int .i64 0,.int .i64 0,.int .i64 2]⟩),.eq (.agg ⟨[.int .i64 1,.int .i64 0,.int .i64 0,.int .i64 0,.int .i64 2]⟩),.eq (.bool true),.eq (.bool true),.eq (.bool true),.mat mOne,.eq (.agg ⟨[.int .i64 1,.int .i64 0,.int .i64 0,.int .i64 0,.int .i64 0]⟩),.eq (.agg ⟨[.int .i64 0,.int .i64 0,.int .i64 0,.int .i64 0,.int .i64 0]⟩),.num [nu 1 0,nu 0 0],.mat mOne,.eq (.bool true),.eq (.bool true),.eq (.bool true),.eq (.agg ⟨[.int .i64 1,.int .i64 0,.int .i64 0,.int .i64 0,.int .i64 2]⟩),.eq (.agg ⟨[.int .i64 1,.int .i64 0,.int .i64 0,.int .i64 0,.int .i64 2]⟩),.eq (.bool true),.eq (.bool true),.eq (.bool true),.eq (.slice (some ⟨lb,lo,none⟩) 2 lc),.eq (.pointer (some ⟨lb,lo+0*1,none⟩)),.mat mH0,.eq (.agg ⟨[.int .i64 1,.int .i64 0,.int .i64 0,.int .i64 0,.int .i64 2]⟩),.eq (.agg ⟨[.int .i64 0,.int .i64 0,.int .i64 0,.int .i64 0,.int .i64 0]⟩),.num [nu 1 2,nu 0 0],.mat mH0,.eq (.bool true),.eq (.bool true),.eq (.bool true),.eq (.slice (some ⟨lb,lo,none⟩) 2 lc),.eq (.pointer (some ⟨lb,lo+1*1,none⟩)),.mat mH1,.eq (.agg ⟨[.int .i64 0,.int .i64 0,.int .i64 0,.int .i64 0,.int .i64 0]⟩),.eq (.agg ⟨[.int .i64 1,.int .i64 0,.int .i64 0,.int .i64 0,.int .i64 2]⟩),.num [nu 0 0,nu 1 2],.mat mH1,.eq (.bool true),.eq (.bool true),.eq (.bool true),.mat mHalf,.mat mHalf,.eq (.bool true),.eq (.bool true),.eq (.bool true),.eq (.agg ⟨[.int .i64 0,.int .i64 0,.int .i64 0,.int .i64 0,.int .i64 0]⟩),.eq (.agg ⟨[.int .i64 1,.int .i64 0,.int .i64 0,.int .i64 0,.int .i64 0]⟩),.num [nu 0 0,nu 1 0],.eq (.agg ⟨[.int .i64 0,.int .i64 0,.int .i64 0,.int .i64 0,.int .i64 0]⟩),.eq (.agg ⟨[.int .i64 0,.int .i64 0,.int .i64 0,.int .i64 0,.int .i64 0]⟩),.num [nu 0 0,nu 0 0],.mat mBad,.eq (.int .i64 7),.eq (.bool true),.eq (.bool true),.eq (.bool true)]
set_option maxHeartbeats 8000000 in
theorem e9 (H : PH) (hG:GlobH H):Cl Tryz.prog 9 [] H emp fun r _ _=>r=.bool true:=by
  refine Cl_of (pol:=polAw) Γok Tryz.func9 (by kernel_rfl) rfl ?_
  conv=>whnf
  intro b1
  conv=>whnf
  refine⟨_,Rd.anyO (O:=emp) hG.2,?_⟩
  conv=>whnf
  refine⟨_,Rd.anyO (O:=emp) hG.2,?_⟩
  conv=>whnf
  intro k1 hk1 ok1
  conv=>whnf
  refine (Cl.outH (e15 [nu 1 1,nu 1 1] (by decide) _ _ (pair_num (x:=nu 1 1) (y:=nu 1 1) (ins_same _ _ _)))).use fun r H1 s1 hr=>?_
  obtain⟨_,hr⟩:=hr
  rw[x_of] at hr
  obtain⟨va,rfl,hA⟩:=hr
  obtain⟨ab,ac,rfl⟩:=MatH.sl hA
  replace hG:=hG.up ((sub_ins _ _ hk1).trans s1)
  conv=>whnf
  refine (Cl.outH (e31 mFull 0 (by decide) _ _ hA)).use fun r H2 s2 hr=>?_
  obtain⟨_,hr⟩:=hr
  rw[x_forget] at hr
  obtain⟨vb,rfl,hB⟩:=hr
  obtain⟨bb,bc,rfl⟩:=MatH.sl hB
  replace hG:=hG.up s2
  replace hA:=hA.up s2
  conv=>whnf
  refine (Cl.outH (e16 1 (by decide) _)).use fun r H3 s3 hr=>?_
  obtain⟨_,hr⟩:=hr
  rw[x_mixed] at hr
  obtain⟨vm,rfl,hM⟩:=hr
  obtain⟨mb,mc,rfl⟩:=MatH.sl hM
  replace hG:=hG.up s3
  replace hA:=hA.up s3
  replace hB:=hB.up s3
  conv=>whnf
  refine⟨_,Rd.anyO (O:=emp) hG.2,?_⟩
  conv=>whnf
  refine⟨_,Rd.anyO (O:=emp) hG.2,?_⟩
  conv=>whnf
  intro k2 hk2 ok2
  conv=>whnf
  refine (Cl.outH (e15 [nu 1 1,nu 0 0,nu 0 0,nu 1 1] (by decide) _ _ (quad_num (x:=nu 1 1) (y:=nu 0 0) (z:=nu 0 0) (t:=nu 1 1) (ins_same _ _ _)))).use fun r H4 s4 hr=>?_
  obtain⟨_,hr⟩:=hr
  rw[x_bell] at hr
  obtain⟨vc,rfl,hC⟩:=hr
  obtain⟨cb,cc,rfl⟩:=MatH.sl hC
  have t4:=(sub_ins _ _ hk2).trans s4
  replace hG:=hG.up t4
  replace hA:=hA.up t4
  replace hB:=hB.up t4
  replace hM:=hM.up t4
  conv=>whnf
  refine (Cl.outH (e33 mBell 1 (by decide) _ _ hC)).use fun r H5 s5 hr=>?_
  obtain⟨_,hr⟩:=hr
  rw[x_out] at hr
  obtain⟨vd,rfl,hD⟩:=hr
  obtain⟨db,dc,rfl⟩:=MatH.sl hD
  replace hG:=hG.up s5
  replace hA:=hA.up s5
  replace hB:=hB.up s5
  replace hM:=hM.up s5
  conv=>whnf
  refine (e35 mHalf (by decide) _ _ hD).val fun H6 s6=>?_
  rw[x_purity]
  replace hG:=hG.up s6
  replace hA:=hA.up s6
  replace hB:=hB.up s6
  replace hM:=hM.up s6
  replace hD:=hD.up s6
  conv=>whnf
  intro b12
  conv=>whnf
  refine (Cl.outH (e32 mHalf 0 (by decide) _ _ hM)).use fun r H7 s7 hr=>?_
  obtain⟨_,hr⟩:=hr
  rw[x_reset] at hr
  obtain⟨vr,rfl,hR⟩:=hr
  obtain⟨rb,rc,rfl⟩:=MatH.sl hR
  replace hG:=hG.up s7
  replace hA:=hA.up s7
  replace hB:=hB.up s7
  replace hM:=hM.up s7
  replace hD:=hD.up s7
  conv=>whnf
  refine (Cl.outH (e16 2 (by decide) _)).use fun r H8 s8 hr=>?_
  obtain⟨_,hr⟩:=hr
  rw[x_quart] at hr
  obtain⟨vq,rfl,hQ⟩:=hr
  obtain⟨qb,qc,rfl⟩:=MatH.sl hQ
  conv=>whnf
  refine (e34 mQuart 0 (by decide) _ _ hQ).val fun H9 s9=>?_
  rw[x_odds]
  have t9:=s8.trans s9
  replace hG:=hG.up t9
  replace hA:=hA.up t9
  replace hB:=hB.up t9
  replace hM:=hM.up t9
  replace hD:=hD.up t9
  replace hR:=hR.up t9
  conv=>whnf
  intro b18
  conv=>whnf
  intro k3 hk3 ok3
  conv=>whnf
  have i3:=sub_ins H9 (.cells ⟨[.int .i64 0]⟩ 3 (0,0)) hk3
  refine (e51 13 _ [0] _ (ints_c (l:=[0]) (ins_same _ _ _))).val fun H10 s10=>?_
  have hw:IntsC H10 (.slice (some ⟨k3,0,none⟩) 1 1) [0]:=ints_c (l:=[0]) (s10 _ _ (ins_same _ _ _))
  conv=>whnf
  intro k4 hk4 ok4
  conv=>whnf
  have t10:=((sub_ins _ _ hk3).trans s10).trans (sub_ins H10 (.cells ⟨[.int .i64 13,.slice (some ⟨k3,0,none⟩) 1 1,.int .i64 0,.int .i64 0]⟩ 42 (0,0)) hk4)
  replace hG:=hG.up t10
  replace hA:=hA.up t10
  replace hB:=hB.up t10
  replace hM:=hM.up t10
  replace hD:=hD.up t10
  replace hR:=hR.up t10
  refine (e41p cMeas mHalf ⟨by decide,by decide⟩ (by decide) _ _ _ ⟨_,rfl,gates1 (g1:=⟨13,[0],0,0⟩) (ins_same _ _ _) (hw.up (sub_ins _ _ hk4))⟩ hM).use fun r H11 s11 hr=>?_
  obtain⟨_,hr⟩:=hr
  rw[x_run] at hr
  obtain⟨lb0,lc,rfl,hlc,hl⟩:=hr
  obtain⟨lb,lo,u0,rfl,hru0,hu0⟩:=MatsH.rd hl (i:=0) (by decide)
  obtain⟨_,_,u1,ee,hru1,hu1⟩:=MatsH.rd hl (i:=1) (by decide)
  cases ee
  replace hG:=hG.up s11
  replace hA:=hA.up s11
  replace hB:=hB.up s11
  replace hM:=hM.up s11
  replace hD:=hD.up s11
  replace hR:=hR.up s11
  conv=>whnf
  refine W_freeG (pol:=polAw) Γok mixes 225 (by kernel_rfl) rfl (MI H11 emp (AsS spR12)) ⟨Sub.refl _,rfl,fun i h=>(by cases h)⟩ (guards_met (by kernel_rfl)) ?_ ?_
  · intro i op ho' L V H' O' hI hLi hsee
    have hi:i < 16:=(List.getElem?_eq_some_iff.1 ho').1
    have get:∀ j,seesB _ op j=true→AsS spR12 j (V j) H':=fun j h=>hI.sp j (hsee j h)
    have stp:=fun {H'':PH} {v:Value} (hs:Sub H' H'') hv=>MI.step (S:=AsS spR12) (i:=i) (v:=v) (fun h s=>AsS.up h s) hI hs hv
    have hO':=hI.own
    subst hO'
    rcases (show i=0∨i=1∨i=2∨i=3∨i=4∨i=5∨i=6∨i=7∨i=8∨i=9∨i=10∨i=11∨i=12∨i=13∨i=14∨i=15 by omega) with rfl | rfl | rfl | rfl | rfl | rfl | rfl | rfl | rfl | rfl | rfl | rfl | rfl | rfl | rfl | rfl
    · cases ho'
      conv=>whnf
      exact⟨⟨_,rfl⟩,_,rfl,stp (Sub.refl _) rfl⟩
    · cases ho'
      conv=>whnf
      exact⟨⟨_,rfl⟩,_,rfl,stp (Sub.refl _) rfl⟩
    · cases ho'
      have h0:V 0=(.agg ⟨[.int .i64 1,.int .i64 0,.int .i64 0,.int .i64 0,.int .i64 0]⟩):=get 0 (by kernel_rfl)
      have h1:V 1=(.agg ⟨[.int .i64 0,.int .i64 0,.int .i64 0,.int .i64 0,.int .i64 0]⟩):=get 1 (by kernel_rfl)
      conv=>whnf
      rw[h0]
      conv=>whnf
      rw[h1]
      conv=>whnf
      intro b hb hO
      conv=>whnf
      exact⟨⟨_,rfl⟩,_,rfl,stp (sub_ins _ _ hb) ⟨⟨b,rfl⟩,(pair_num (x:=nu 1 0) (y:=nu 0 0) (ins_same _ _ _))⟩⟩
    · cases ho'
      obtain⟨_,h2⟩:(∃ b,V 2=.slice (some ⟨b,0,none⟩) 2 2)∧NumH H' (V 2) [nu 1 0,nu 0 0]:=get 2 (by kernel_rfl)
      conv=>whnf
      refine (e50h [nu 1 0,nu 0 0] mOne x_diag1 (by decide) _ _ h2).use fun v5 H5 s5 hv5=>?_
      obtain⟨_,hv5⟩:=hv5
      conv=>whnf
      exact⟨⟨_,rfl⟩,_,rfl,stp s5 hv5⟩
    · cases ho'
      conv=>whnf
      exact⟨⟨_,rfl⟩,_,rfl,stp (Sub.refl _) rfl⟩
    · cases ho'
      conv=>whnf
      exact⟨⟨_,rfl⟩,_,rfl,stp (Sub.refl _) rfl⟩
    · cases ho'
      have h4:V 4=(.agg ⟨[.int .i64 0,.int .i64 0,.int .i64 0,.int .i64 0,.int .i64 0]⟩):=get 4 (by kernel_rfl)
      have h5:V 5=(.agg ⟨[.int .i64 1,.int .i64 0,.int .i64 0,.int .i64 0,.int .i64 0]⟩):=get 5 (by kernel_rfl)
      conv=>whnf
      rw[h4]
      conv=>whnf
      rw[h5]
      conv=>whnf
      intro b hb hO
      conv=>whnf
      exact⟨⟨_,rfl⟩,_,rfl,stp (sub_ins _ _ hb) ⟨⟨b,rfl⟩,(pair_num (x:=nu 0 0) (y:=nu 1 0) (ins_same _ _ _))⟩⟩
    · cases ho'
      obtain⟨_,h6⟩:(∃ b,V 6=.slice (some ⟨b,0,none⟩) 2 2)∧NumH H' (V 6) [nu 0 0,nu 1 0]:=get 6 (by kernel_rfl)
      conv=>whnf
      refine (e50h [nu 0 0,nu 1 0] mTwo x_diag2 (by decide) _ _ h6).use fun v5 H5 s5 hv5=>?_
      obtain⟨_,hv5⟩:=hv5
      conv=>whnf
      exact⟨⟨_,rfl⟩,_,rfl,stp s5 hv5⟩
    · cases ho'
      conv=>whnf
      refine⟨_,Rd.anyO (O:=emp) (GlobH.up hG hI.sub).1,?_⟩
      conv=>whnf
      exact⟨⟨_,rfl⟩,_,rfl,stp (Sub.refl _) rfl⟩
    · cases ho'
      conv=>whnf
      refine⟨_,Rd.anyO (O:=emp) (GlobH.up hG hI.sub).1,?_⟩
      conv=>whnf
      exact⟨⟨_,rfl⟩,_,rfl,stp (Sub.refl _) rfl⟩
    · cases ho'
      have h3:MatH H' (V 3) mOne:=get 3 (by kernel_rfl)
      have h7:MatH H' (V 7) mTwo:=get 7 (by kernel_rfl)
      have h8:V 8=(.agg ⟨[.int .i64 1,.int .i64 0,.int .i64 0,.int .i64 0,.int .i64 2]⟩):=get 8 (by kernel_rfl)
      have h9:V 9=(.agg ⟨[.int .i64 1,.int .i64 0,.int .i64 0,.int .i64 0,.int .i64 2]⟩):=get 9 (by kernel_rfl)
      conv=>whnf
      rw[h8,h9]
      refine (Cl.outH (e17 mOne mTwo (nu 1 2) (nu 1 2) (by decide) (by decide) _ _ _ h3 h7)).use fun v5 H5 s5 hv5=>?_
      obtain⟨_,hv5⟩:=hv5
      conv=>whnf
      exact⟨⟨_,rfl⟩,_,rfl,stp s5 (hv5.of x_mix)⟩
    · cases ho'
      obtain⟨u10,h10,k10⟩:OutH H' (V 10) (mHalf,0):=get 10 (by kernel_rfl)
      conv=>whnf
      exact⟨⟨_,rfl⟩,_,rfl,stp (Sub.refl _) ⟨u10,h10,k10⟩⟩
    · cases ho'
      obtain⟨u11,h11,k11⟩:OutH H' (V 11) (mHalf,0):=get 11 (by kernel_rfl)
      conv=>whnf
      rw[h11]
      conv=>whnf
      exact⟨⟨_,rfl⟩,_,rfl,stp (Sub.refl _) k11⟩
    · cases ho'
      obtain⟨u11,h11,k11⟩:OutH H' (V 11) (mHalf,0):=get 11 (by kernel_rfl)
      conv=>whnf
      rw[h11]
      conv=>whnf
      exact⟨⟨_,rfl⟩,_,rfl,stp (Sub.refl _) rfl⟩
    · cases ho'
      have h12:MatH H' (V 12) mHalf:=get 12 (by kernel_rfl)
      conv=>whnf
      exact⟨⟨_,rfl⟩,_,rfl,stp (Sub.refl _) h12⟩
    · cases ho'
      have h13:V 13=.int .i64 0:=get 13 (by kernel_rfl)
      conv=>whnf
      exact⟨⟨_,rfl⟩,_,rfl,stp (Sub.refl _) h13⟩
  · intro L V H' O' hI hall
    have hO12:=hI.own
    subst hO12
    have hX:MatH H' (V 14) mHalf:=hI.sp 14 (hall 14 (by decide))
    have e15:V 15=.int .i64 0:=hI.sp 15 (hall 15 (by decide))
    have s12:=hI.sub
    clear hI hall
    conv=>whnf
    rw[e15]
    conv=>whnf
    obtain⟨Hq,hHq⟩:∃ Hq,Hq=H':=⟨_,rfl⟩
    rw[← hHq] at s12 hX ⊢
    clear hHq
    replace hG:=hG.up s12
    replace hA:=hA.up s12
    replace hB:=hB.up s12
    replace hM:=hM.up s12
    replace hD:=hD.up s12
    replace hR:=hR.up s12
    replace hu0:=hu0.up s12
    replace hu1:=hu1.up s12
    have hru0:∀ O,Rd Hq O ⟨lb,lo+0*1,none⟩ 1 [u0]:=fun O=>(Rd_up (hru0 emp) s12).anyO
    have hru1:∀ O,Rd Hq O ⟨lb,lo+1*1,none⟩ 1 [u1]:=fun O=>(Rd_up (hru1 emp) s12).anyO
    refine W_freeG (pol:=polAw) Γok mixes 225 (by kernel_rfl) rfl (MI Hq emp (AsS (spR15 lb lo lc))) ⟨Sub.refl _,rfl,fun i h=>(by cases h)⟩ (guards_met (by kernel_rfl)) ?_ ?_
    · intro i op ho' L V H' O' hI hLi hsee
      have hi:i < 82:=(List.getElem?_eq_some_iff.1 ho').1
      have get:∀ j,seesB _ op j=true→AsS (spR15 lb lo lc) j (V j) H':=fun j h=>hI.sp j (hsee j h)
      have stp:=fun {H'':PH} {v:Value} (hs:Sub H' H'') hv=>MI.step (S:=AsS (spR15 lb lo lc)) (i:=i) (v:=v) (fun h s=>AsS.up h s) hI hs hv
      have hO':=hI.own
      subst hO'
      rcases (show i=0∨i=1∨i=2∨i=3∨i=4∨i=5∨i=6∨i=7∨i=8∨i=9∨i=10∨i=11∨i=12∨i=13∨i=14∨i=15∨i=16∨i=17∨i=18∨i=19∨i=20∨i=21∨i=22∨i=23∨i=24∨i=25∨i=26∨i=27∨i=28∨i=29∨i=30∨i=31∨i=32∨i=33∨i=34∨i=35∨i=36∨i=37∨i=38∨i=39∨i=40∨i=41∨i=42∨i=43∨i=44∨i=45∨i=46∨i=47∨i=48∨i=49∨i=50∨i=51∨i=52∨i=53∨i=54∨i=55∨i=56∨i=57∨i=58∨i=59∨i=60∨i=61∨i=62∨i=63∨i=64∨i=65∨i=66∨i=67∨i=68∨i=69∨i=70∨i=71∨i=72∨i=73∨i=74∨i=75∨i=76∨i=77∨i=78∨i=79∨i=80∨i=81 by omega) with rfl | rfl | rfl | rfl | rfl | rfl | rfl | rfl | rfl | rfl | rfl | rfl | rfl | rfl | rfl | rfl | rfl | rfl | rfl | rfl | rfl | rfl | rfl | rfl | rfl | rfl | rfl | rfl | rfl | rfl | rfl | rfl | rfl | rfl | rfl | rfl | rfl | rfl | rfl | rfl | rfl | rfl | rfl | rfl | rfl | rfl | rfl | rfl | rfl | rfl | rfl | rfl | rfl | rfl | rfl | rfl | rfl | rfl | rfl | rfl | rfl | rfl | rfl | rfl | rfl | rfl | rfl | rfl | rfl | rfl | rfl | rfl | rfl | rfl | rfl | rfl | rfl | rfl | rfl | rfl | rfl | rfl
      · cases ho'
        conv=>whnf
        exact⟨⟨_,rfl⟩,_,rfl,stp (Sub.refl _) (hA.up hI.sub)⟩
      · cases ho'
        conv=>whnf
        refine⟨_,Rd.anyO (O:=emp) (GlobH.up hG hI.sub).1,?_⟩
        conv=>whnf
        exact⟨⟨_,rfl⟩,_,rfl,stp (Sub.refl _) rfl⟩
      · cases ho'
        conv=>whnf
        refine⟨_,Rd.anyO (O:=emp) (GlobH.up hG hI.sub).1,?_⟩
        conv=>whnf
        exact⟨⟨_,rfl⟩,_,rfl,stp (Sub.refl _) rfl⟩
      · cases ho'
        have h1:V 1=(.agg ⟨[.int .i64 1,.int .i64 0,.int .i64 0,.int .i64 0,.int .i64 2]⟩):=get 1 (by kernel_rfl)
        have h2:V 2=(.agg ⟨[.int .i64 1,.int .i64 0,.int .i64 0,.int .i64 0,.int .i64 2]⟩):=get 2 (by kernel_rfl)
        conv=>whnf
        rw[h1]
        conv=>whnf
        rw[h2]
        conv=>whnf
        intro b hb hO
        conv=>whnf
        exact⟨⟨_,rfl⟩,_,rfl,stp (sub_ins _ _ hb) ⟨⟨b,rfl⟩,(pair_num (x:=nu 1 2) (y:=nu 1 2) (ins_same _ _ _))⟩⟩
      · cases ho'
        conv=>whnf
        refine⟨_,Rd.anyO (O:=emp) (GlobH.up hG hI.sub).1,?_⟩
        conv=>whnf
        exact⟨⟨_,rfl⟩,_,rfl,stp (Sub.refl _) rfl⟩
      · cases ho'
        conv=>whnf
        refine⟨_,Rd.anyO (O:=emp) (GlobH.up hG hI.sub).1,?_⟩
        conv=>whnf
        exact⟨⟨_,rfl⟩,_,rfl,stp (Sub.refl _) rfl⟩
      · cases ho'
        have h4:V 4=(.agg ⟨[.int .i64 1,.int .i64 0,.int .i64 0,.int .i64 0,.int .i64 2]⟩):=get 4 (by kernel_rfl)
        have h5:V 5=(.agg ⟨[.int .i64 1,.int .i64 0,.int .i64 0,.int .i64 0,.int .i64 2]⟩):=get 5 (by kernel_rfl)
        conv=>whnf
        rw[h4]
        conv=>whnf
        rw[h5]
        conv=>whnf
        intro b hb hO
        conv=>whnf
        exact⟨⟨_,rfl⟩,_,rfl,stp (sub_ins _ _ hb) ⟨⟨b,rfl⟩,(pair_num (x:=nu 1 2) (y:=nu 1 2) (ins_same _ _ _))⟩⟩
      · cases ho'
        obtain⟨⟨x1,h3⟩,n3⟩:(∃ b,V 3=.slice (some ⟨b,0,none⟩) 2 2)∧NumH H' (V 3) [nu 1 2,nu 1 2]:=get 3 (by kernel_rfl)
        obtain⟨⟨x2,h6⟩,n6⟩:(∃ b,V 6=.slice (some ⟨b,0,none⟩) 2 2)∧NumH H' (V 6) [nu 1 2,nu 1 2]:=get 6 (by kernel_rfl)
        rw[h3] at n3
        rw[h6] at n6
        conv=>whnf
        rw[h3]
        conv=>whnf
        rw[h6]
        conv=>whnf
        intro b hb hO
        conv=>whnf
        exact⟨⟨_,rfl⟩,_,rfl,stp (sub_ins _ _ hb) (mat2 (ins_same _ _ _) (n3.up (sub_ins _ _ hb)) (n6.up (sub_ins _ _ hb)))⟩
      · cases ho'
        have h0:MatH H' (V 0) mFull:=get 0 (by kernel_rfl)
        have h7:MatH H' (V 7) mFull:=get 7 (by kernel_rfl)
        conv=>whnf
        refine (c52c mFull mFull (eqM_refl _) (by decide) (by decide) _ _ _ h0 h7).val fun H5 s5=>?_
        conv=>whnf
        exact⟨⟨_,rfl⟩,_,rfl,stp s5 rfl⟩
      · cases ho'
        have h8:V 8=.bool true:=get 8 (by kernel_rfl)
        conv=>whnf
        exact⟨⟨_,rfl⟩,_,rfl,stp (Sub.refl _) h8⟩
      · cases ho'
        conv=>whnf
        exact⟨⟨_,rfl⟩,_,rfl,stp (Sub.refl _) (hB.up hI.sub)⟩
      · cases ho'
        conv=>whnf
        exact⟨⟨_,rfl⟩,_,rfl,stp (Sub.refl _) (hM.up hI.sub)⟩
      · cases ho'
        have h10:MatH H' (V 10) mHalf:=get 10 (by kernel_rfl)
        have h11:MatH H' (V 11) mHalf:=get 11 (by kernel_rfl)
        conv=>whnf
        refine (c52c mHalf mHalf (eqM_refl _) (by decide) (by decide) _ _ _ h10 h11).val fun H5 s5=>?_
        conv=>whnf
        exact⟨⟨_,rfl⟩,_,rfl,stp s5 rfl⟩
      · cases ho'
        have h9:V 9=.bool true:=get 9 (by kernel_rfl)
        have h12:V 12=.bool true:=get 12 (by kernel_rfl)
        conv=>whnf
        rw[h9]
        conv=>whnf
        exact⟨⟨_,rfl⟩,_,rfl,stp (Sub.refl _) h12⟩
      · cases ho'
        have h13:V 13=.bool true:=get 13 (by kernel_rfl)
        conv=>whnf
        exact⟨⟨_,rfl⟩,_,rfl,stp (Sub.refl _) h13⟩
      · cases ho'
        conv=>whnf
        exact⟨⟨_,rfl⟩,_,rfl,stp (Sub.refl _) (hM.up hI.sub)⟩
      · cases ho'
        conv=>whnf
        refine⟨_,Rd.anyO (O:=emp) (GlobH.up hG hI.sub).1,?_⟩
        conv=>whnf
        exact⟨⟨_,rfl⟩,_,rfl,stp (Sub.refl _) rfl⟩
      · cases ho'
        conv=>whnf
        refine⟨_,Rd.anyO (O:=emp) (GlobH.up hG hI.sub).1,?_⟩
        conv=>whnf
        exact⟨⟨_,rfl⟩,_,rfl,stp (Sub.refl _) rfl⟩
      · cases ho'
        have h16:V 16=(.agg ⟨[.int .i64 1,.int .i64 0,.int .i64 0,.int .i64 0,.int .i64 2]⟩):=get 16 (by kernel_rfl)
        have h17:V 17=(.agg ⟨[.int .i64 1,.int .i64 0,.int .i64 0,.int .i64 0,.int .i64 2]⟩):=get 17 (by kernel_rfl)
        conv=>whnf
        rw[h16]
        conv=>whnf
        rw[h17]
        conv=>whnf
        intro b hb hO
        conv=>whnf
        exact⟨⟨_,rfl⟩,_,rfl,stp (sub_ins _ _ hb) ⟨⟨b,rfl⟩,(pair_num (x:=nu 1 2) (y:=nu 1 2) (ins_same _ _ _))⟩⟩
      · cases ho'
        obtain⟨_,h18⟩:(∃ b,V 18=.slice (some ⟨b,0,none⟩) 2 2)∧NumH H' (V 18) [nu 1 2,nu 1 2]:=get 18 (by kernel_rfl)
        conv=>whnf
        refine (e50h [nu 1 2,nu 1 2] mHalf x_diag3 (by decide) _ _ h18).use fun v5 H5 s5 hv5=>?_
        obtain⟨_,hv5⟩:=hv5
        conv=>whnf
        exact⟨⟨_,rfl⟩,_,rfl,stp s5 hv5⟩
      · cases ho'
        have h15:MatH H' (V 15) mHalf:=get 15 (by kernel_rfl)
        have h19:MatH H' (V 19) mHalf:=get 19 (by kernel_rfl)
        conv=>whnf
        refine (c52c mHalf mHalf (eqM_refl _) (by decide) (by decide) _ _ _ h15 h19).val fun H5 s5=>?_
        conv=>whnf
        exact⟨⟨_,rfl⟩,_,rfl,stp s5 rfl⟩
      · cases ho'
        have h14:V 14=.bool true:=get 14 (by kernel_rfl)
        have h20:V 20=.bool true:=get 20 (by kernel_rfl)
        conv=>whnf
        rw[h14]
        conv=>whnf
        exact⟨⟨_,rfl⟩,_,rfl,stp (Sub.refl _) h20⟩
      · cases ho'
        have h21:V 21=.bool true:=get 21 (by kernel_rfl)
        conv=>whnf
        exact⟨⟨_,rfl⟩,_,rfl,stp (Sub.refl _) h21⟩
      · cases ho'
        conv=>whnf
        exact⟨⟨_,rfl⟩,_,rfl,stp (Sub.refl _) (hD.up hI.sub)⟩
      · cases ho'
        conv=>whnf
        exact⟨⟨_,rfl⟩,_,rfl,stp (Sub.refl _) (hM.up hI.sub)⟩
      · cases ho'
        have h23:MatH H' (V 23) mHalf:=get 23 (by kernel_rfl)
        have h24:MatH H' (V 24) mHalf:=get 24 (by kernel_rfl)
        conv=>whnf
        refine (c52c mHalf mHalf (eqM_refl _) (by decide) (by decide) _ _ _ h23 h24).val fun H5 s5=>?_
        conv=>whnf
        exact⟨⟨_,rfl⟩,_,rfl,stp s5 rfl⟩
      · cases ho'
        have h22:V 22=.bool true:=get 22 (by kernel_rfl)
        have h25:V 25=.bool true:=get 25 (by kernel_rfl)
        conv=>whnf
        rw[h22]
        conv=>whnf
        exact⟨⟨_,rfl⟩,_,rfl,stp (Sub.refl _) h25⟩
      · cases ho'
        have h26:V 26=.bool true:=get 26 (by kernel_rfl)
        conv=>whnf
        exact⟨⟨_,rfl⟩,_,rfl,stp (Sub.refl _) h26⟩
      · cases ho'
        conv=>whnf
        exact⟨⟨_,rfl⟩,_,rfl,stp (Sub.refl _) rfl⟩
      · cases ho'
        conv=>whnf
        refine⟨_,Rd.anyO (O:=emp) (GlobH.up hG hI.sub).1,?_⟩
        conv=>whnf
        exact⟨⟨_,rfl⟩,_,rfl,stp (Sub.refl _) rfl⟩
      · cases ho'
        have h28:V 28=(.agg ⟨[.int .i64 1,.int .i64 0,.int .i64 0,.int .i64 0,.int .i64 2]⟩):=get 28 (by kernel_rfl)
        have h29:V 29=(.agg ⟨[.int .i64 1,.int .i64 0,.int .i64 0,.int .i64 0,.int .i64 2]⟩):=get 29 (by kernel_rfl)
        conv=>whnf
        rw[h28,h29]
        conv=>whnf
        exact⟨⟨_,rfl⟩,_,rfl,stp (Sub.refl _) rfl⟩
      · cases ho'
        have h27:V 27=.bool true:=get 27 (by kernel_rfl)
        have h30:V 30=.bool true:=get 30 (by kernel_rfl)
        conv=>whnf
        rw[h27]
        conv=>whnf
        exact⟨⟨_,rfl⟩,_,rfl,stp (Sub.refl _) h30⟩
      · cases ho'
        have h31:V 31=.bool true:=get 31 (by kernel_rfl)
        conv=>whnf
        exact⟨⟨_,rfl⟩,_,rfl,stp (Sub.refl _) h31⟩
      · cases ho'
        conv=>whnf
        exact⟨⟨_,rfl⟩,_,rfl,stp (Sub.refl _) (hR.up hI.sub)⟩
      · cases ho'
        conv=>whnf
        exact⟨⟨_,rfl⟩,_,rfl,stp (Sub.refl _) rfl⟩
      · cases ho'
        conv=>whnf
        exact⟨⟨_,rfl⟩,_,rfl,stp (Sub.refl _) rfl⟩
      · cases ho'
        have h34:V 34=(.agg ⟨[.int .i64 1,.int .i64 0,.int .i64 0,.int .i64 0,.int .i64 0]⟩):=get 34 (by kernel_rfl)
        have h35:V 35=(.agg ⟨[.int .i64 0,.int .i64 0,.int .i64 0,.int .i64 0,.int .i64 0]⟩):=get 35 (by kernel_rfl)
        conv=>whnf
        rw[h34]
        conv=>whnf
        rw[h35]
        conv=>whnf
        intro b hb hO
        conv=>whnf
        exact⟨⟨_,rfl⟩,_,rfl,stp (sub_ins _ _ hb) ⟨⟨b,rfl⟩,(pair_num (x:=nu 1 0) (y:=nu 0 0) (ins_same _ _ _))⟩⟩
      · cases ho'
        obtain⟨_,h36⟩:(∃ b,V 36=.slice (some ⟨b,0,none⟩) 2 2)∧NumH H' (V 36) [nu 1 0,nu 0 0]:=get 36 (by kernel_rfl)
        conv=>whnf
        refine (e50h [nu 1 0,nu 0 0] mOne x_diag1 (by decide) _ _ h36).use fun v5 H5 s5 hv5=>?_
        obtain⟨_,hv5⟩:=hv5
        conv=>whnf
        exact⟨⟨_,rfl⟩,_,rfl,stp s5 hv5⟩
      · cases ho'
        have h33:MatH H' (V 33) mOne:=get 33 (by kernel_rfl)
        have h37:MatH H' (V 37) mOne:=get 37 (by kernel_rfl)
        conv=>whnf
        refine (c52c mOne mOne (eqM_refl _) (by decide) (by decide) _ _ _ h33 h37).val fun H5 s5=>?_
        conv=>whnf
        exact⟨⟨_,rfl⟩,_,rfl,stp s5 rfl⟩
      · cases ho'
        have h32:V 32=.bool true:=get 32 (by kernel_rfl)
        have h38:V 38=.bool true:=get 38 (by kernel_rfl)
        conv=>whnf
        rw[h32]
        conv=>whnf
        exact⟨⟨_,rfl⟩,_,rfl,stp (Sub.refl _) h38⟩
      · cases ho'
        have h39:V 39=.bool true:=get 39 (by kernel_rfl)
        conv=>whnf
        exact⟨⟨_,rfl⟩,_,rfl,stp (Sub.refl _) h39⟩
      · cases ho'
        conv=>whnf
        exact⟨⟨_,rfl⟩,_,rfl,stp (Sub.refl _) rfl⟩
      · cases ho'
        conv=>whnf
        refine⟨_,Rd.anyO (O:=emp) (GlobH.up hG hI.sub).1,?_⟩
        conv=>whnf
        exact⟨⟨_,rfl⟩,_,rfl,stp (Sub.refl _) rfl⟩
      · cases ho'
        have h41:V 41=(.agg ⟨[.int .i64 1,.int .i64 0,.int .i64 0,.int .i64 0,.int .i64 2]⟩):=get 41 (by kernel_rfl)
        have h42:V 42=(.agg ⟨[.int .i64 1,.int .i64 0,.int .i64 0,.int .i64 0,.int .i64 2]⟩):=get 42 (by kernel_rfl)
        conv=>whnf
        rw[h41,h42]
        conv=>whnf
        exact⟨⟨_,rfl⟩,_,rfl,stp (Sub.refl _) rfl⟩
      · cases ho'
        have h40:V 40=.bool true:=get 40 (by kernel_rfl)
        have h43:V 43=.bool true:=get 43 (by kernel_rfl)
        conv=>whnf
        rw[h40]
        conv=>whnf
        exact⟨⟨_,rfl⟩,_,rfl,stp (Sub.refl _) h43⟩
      · cases ho'
        have h44:V 44=.bool true:=get 44 (by kernel_rfl)
        conv=>whnf
        exact⟨⟨_,rfl⟩,_,rfl,stp (Sub.refl _) h44⟩
      · cases ho'
        conv=>whnf
        exact⟨⟨_,rfl⟩,_,rfl,stp (Sub.refl _) rfl⟩
      · cases ho'
        have h46:V 46=(.slice (some ⟨lb,lo,none⟩) 2 lc):=get 46 (by kernel_rfl)
        conv=>whnf
        rw[h46]
        conv=>whnf
        exact⟨⟨_,rfl⟩,_,rfl,stp (Sub.refl _) rfl⟩
      · cases ho'
        have h47:V 47=.pointer (some ⟨lb,lo+0*1,none⟩):=get 47 (by kernel_rfl)
        conv=>whnf
        rw[h47]
        conv=>whnf
        obtain⟨qb,qc,eq⟩:=MatH.sl hu0
        refine⟨_,Rd.anyO (O:=emp) (Rd_up (hru0 emp) hI.sub),?_⟩
        rw[eq]
        conv=>whnf
        exact⟨⟨_,rfl⟩,_,rfl,stp (Sub.refl _) (eq ▸ hu0.up hI.sub)⟩
      · cases ho'
        conv=>whnf
        refine⟨_,Rd.anyO (O:=emp) (GlobH.up hG hI.sub).1,?_⟩
        conv=>whnf
        exact⟨⟨_,rfl⟩,_,rfl,stp (Sub.refl _) rfl⟩
      · cases ho'
        conv=>whnf
        exact⟨⟨_,rfl⟩,_,rfl,stp (Sub.refl _) rfl⟩
      · cases ho'
        have h49:V 49=(.agg ⟨[.int .i64 1,.int .i64 0,.int .i64 0,.int .i64 0,.int .i64 2]⟩):=get 49 (by kernel_rfl)
        have h50:V 50=(.agg ⟨[.int .i64 0,.int .i64 0,.int .i64 0,.int .i64 0,.int .i64 0]⟩):=get 50 (by kernel_rfl)
        conv=>whnf
        rw[h49]
        conv=>whnf
        rw[h50]
        conv=>whnf
        intro b hb hO
        conv=>whnf
        exact⟨⟨_,rfl⟩,_,rfl,stp (sub_ins _ _ hb) ⟨⟨b,rfl⟩,(pair_num (x:=nu 1 2) (y:=nu 0 0) (ins_same _ _ _))⟩⟩
      · cases ho'
        obtain⟨_,h51⟩:(∃ b,V 51=.slice (some ⟨b,0,none⟩) 2 2)∧NumH H' (V 51) [nu 1 2,nu 0 0]:=get 51 (by kernel_rfl)
        conv=>whnf
        refine (e50h [nu 1 2,nu 0 0] mH0 x_diag4 (by decide) _ _ h51).use fun v5 H5 s5 hv5=>?_
        obtain⟨_,hv5⟩:=hv5
        conv=>whnf
        exact⟨⟨_,rfl⟩,_,rfl,stp s5 hv5⟩
      · cases ho'
        have h48:MatH H' (V 48) mH0:=get 48 (by kernel_rfl)
        have h52:MatH H' (V 52) mH0:=get 52 (by kernel_rfl)
        conv=>whnf
        refine (c52c mH0 mH0 (eqM_refl _) (by decide) (by decide) _ _ _ h48 h52).val fun H5 s5=>?_
        conv=>whnf
        exact⟨⟨_,rfl⟩,_,rfl,stp s5 rfl⟩
      · cases ho'
        have h45:V 45=.bool true:=get 45 (by kernel_rfl)
        have h53:V 53=.bool true:=get 53 (by kernel_rfl)
        conv=>whnf
        rw[h45]
        conv=>whnf
        exact⟨⟨_,rfl⟩,_,rfl,stp (Sub.refl _) h53⟩
      · cases ho'
        have h54:V 54=.bool true:=get 54 (by kernel_rfl)
        conv=>whnf
        exact⟨⟨_,rfl⟩,_,rfl,stp (Sub.refl _) h54⟩
      · cases ho'
        conv=>whnf
        exact⟨⟨_,rfl⟩,_,rfl,stp (Sub.refl _) rfl⟩
      · cases ho'
        have h56:V 56=(.slice (some ⟨lb,lo,none⟩) 2 lc):=get 56 (by kernel_rfl)
        conv=>whnf
        rw[h56]
        conv=>whnf
        exact⟨⟨_,rfl⟩,_,rfl,stp (Sub.refl _) rfl⟩
      · cases ho'
        have h57:V 57=.pointer (some ⟨lb,lo+1*1,none⟩):=get 57 (by kernel_rfl)
        conv=>whnf
        rw[h57]
        conv=>whnf
        obtain⟨qb,qc,eq⟩:=MatH.sl hu1
        refine⟨_,Rd.anyO (O:=emp) (Rd_up (hru1 emp) hI.sub),?_⟩
        rw[eq]
        conv=>whnf
        exact⟨⟨_,rfl⟩,_,rfl,stp (Sub.refl _) (eq ▸ hu1.up hI.sub)⟩
      · cases ho'
        conv=>whnf
        exact⟨⟨_,rfl⟩,_,rfl,stp (Sub.refl _) rfl⟩
      · cases ho'
        conv=>whnf
        refine⟨_,Rd.anyO (O:=emp) (GlobH.up hG hI.sub).1,?_⟩
        conv=>whnf
        exact⟨⟨_,rfl⟩,_,rfl,stp (Sub.refl _) rfl⟩
      · cases ho'
        have h59:V 59=(.agg ⟨[.int .i64 0,.int .i64 0,.int .i64 0,.int .i64 0,.int .i64 0]⟩):=get 59 (by kernel_rfl)
        have h60:V 60=(.agg ⟨[.int .i64 1,.int .i64 0,.int .i64 0,.int .i64 0,.int .i64 2]⟩):=get 60 (by kernel_rfl)
        conv=>whnf
        rw[h59]
        conv=>whnf
        rw[h60]
        conv=>whnf
        intro b hb hO
        conv=>whnf
        exact⟨⟨_,rfl⟩,_,rfl,stp (sub_ins _ _ hb) ⟨⟨b,rfl⟩,(pair_num (x:=nu 0 0) (y:=nu 1 2) (ins_same _ _ _))⟩⟩
      · cases ho'
        obtain⟨_,h61⟩:(∃ b,V 61=.slice (some ⟨b,0,none⟩) 2 2)∧NumH H' (V 61) [nu 0 0,nu 1 2]:=get 61 (by kernel_rfl)
        conv=>whnf
        refine (e50h [nu 0 0,nu 1 2] mH1 x_diag5 (by decide) _ _ h61).use fun v5 H5 s5 hv5=>?_
        obtain⟨_,hv5⟩:=hv5
        conv=>whnf
        exact⟨⟨_,rfl⟩,_,rfl,stp s5 hv5⟩
      · cases ho'
        have h58:MatH H' (V 58) mH1:=get 58 (by kernel_rfl)
        have h62:MatH H' (V 62) mH1:=get 62 (by kernel_rfl)
        conv=>whnf
        refine (c52c mH1 mH1 (eqM_refl _) (by decide) (by decide) _ _ _ h58 h62).val fun H5 s5=>?_
        conv=>whnf
        exact⟨⟨_,rfl⟩,_,rfl,stp s5 rfl⟩
      · cases ho'
        have h55:V 55=.bool true:=get 55 (by kernel_rfl)
        have h63:V 63=.bool true:=get 63 (by kernel_rfl)
        conv=>whnf
        rw[h55]
        conv=>whnf
        exact⟨⟨_,rfl⟩,_,rfl,stp (Sub.refl _) h63⟩
      · cases ho'
        have h64:V 64=.bool true:=get 64 (by kernel_rfl)
        conv=>whnf
        exact⟨⟨_,rfl⟩,_,rfl,stp (Sub.refl _) h64⟩
      · cases ho'
        conv=>whnf
        exact⟨⟨_,rfl⟩,_,rfl,stp (Sub.refl _) (hX.up hI.sub)⟩
      · cases ho'
        conv=>whnf
        exact⟨⟨_,rfl⟩,_,rfl,stp (Sub.refl _) (hM.up hI.sub)⟩
      · cases ho'
        have h66:MatH H' (V 66) mHalf:=get 66 (by kernel_rfl)
        have h67:MatH H' (V 67) mHalf:=get 67 (by kernel_rfl)
        conv=>whnf
        refine (c52c mHalf mHalf (eqM_refl _) (by decide) (by decide) _ _ _ h66 h67).val fun H5 s5=>?_
        conv=>whnf
        exact⟨⟨_,rfl⟩,_,rfl,stp s5 rfl⟩
      · cases ho'
        have h65:V 65=.bool true:=get 65 (by kernel_rfl)
        have h68:V 68=.bool true:=get 68 (by kernel_rfl)
        conv=>whnf
        rw[h65]
        conv=>whnf
        exact⟨⟨_,rfl⟩,_,rfl,stp (Sub.refl _) h68⟩
      · cases ho'
        have h69:V 69=.bool true:=get 69 (by kernel_rfl)
        conv=>whnf
        exact⟨⟨_,rfl⟩,_,rfl,stp (Sub.refl _) h69⟩
      · cases ho'
        conv=>whnf
        exact⟨⟨_,rfl⟩,_,rfl,stp (Sub.refl _) rfl⟩
      · cases ho'
        conv=>whnf
        exact⟨⟨_,rfl⟩,_,rfl,stp (Sub.refl _) rfl⟩
      · cases ho'
        have h71:V 71=(.agg ⟨[.int .i64 0,.int .i64 0,.int .i64 0,.int .i64 0,.int .i64 0]⟩):=get 71 (by kernel_rfl)
        have h72:V 72=(.agg ⟨[.int .i64 1,.int .i64 0,.int .i64 0,.int .i64 0,.int .i64 0]⟩):=get 72 (by kernel_rfl)
        conv=>whnf
        rw[h71]
        conv=>whnf
        rw[h72]
        conv=>whnf
        intro b hb hO
        conv=>whnf
        exact⟨⟨_,rfl⟩,_,rfl,stp (sub_ins _ _ hb) ⟨⟨b,rfl⟩,(pair_num (x:=nu 0 0) (y:=nu 1 0) (ins_same _ _ _))⟩⟩
      · cases ho'
        conv=>whnf
        exact⟨⟨_,rfl⟩,_,rfl,stp (Sub.refl _) rfl⟩
      · cases ho'
        conv=>whnf
        exact⟨⟨_,rfl⟩,_,rfl,stp (Sub.refl _) rfl⟩
      · cases ho'
        have h74:V 74=(.agg ⟨[.int .i64 0,.int .i64 0,.int .i64 0,.int .i64 0,.int .i64 0]⟩):=get 74 (by kernel_rfl)
        have h75:V 75=(.agg ⟨[.int .i64 0,.int .i64 0,.int .i64 0,.int .i64 0,.int .i64 0]⟩):=get 75 (by kernel_rfl)
        conv=>whnf
        rw[h74]
        conv=>whnf
        rw[h75]
        conv=>whnf
        intro b hb hO
        conv=>whnf
        exact⟨⟨_,rfl⟩,_,rfl,stp (sub_ins _ _ hb) ⟨⟨b,rfl⟩,(pair_num (x:=nu 0 0) (y:=nu 0 0) (ins_same _ _ _))⟩⟩
      · cases ho'
        obtain⟨⟨x1,h73⟩,n73⟩:(∃ b,V 73=.slice (some ⟨b,0,none⟩) 2 2)∧NumH H' (V 73) [nu 0 0,nu 1 0]:=get 73 (by kernel_rfl)
        obtain⟨⟨x2,h76⟩,n76⟩:(∃ b,V 76=.slice (some ⟨b,0,none⟩) 2 2)∧NumH H' (V 76) [nu 0 0,nu 0 0]:=get 76 (by kernel_rfl)
        rw[h73] at n73
        rw[h76] at n76
        conv=>whnf
        rw[h73]
        conv=>whnf
        rw[h76]
        conv=>whnf
        intro b hb hO
        conv=>whnf
        exact⟨⟨_,rfl⟩,_,rfl,stp (sub_ins _ _ hb) (mat2 (ins_same _ _ _) (n73.up (sub_ins _ _ hb)) (n76.up (sub_ins _ _ hb)))⟩
      · cases ho'
        have h77:MatH H' (V 77) mBad:=get 77 (by kernel_rfl)
        conv=>whnf
        refine (e48 mBad (by decide) _ _ h77).val fun H5 s5=>?_
        rw[show denErr mBad=7 from x_check]
        conv=>whnf
        exact⟨⟨_,rfl⟩,_,rfl,stp s5 rfl⟩
      · cases ho'
        have h78:V 78=.int .i64 7:=get 78 (by kernel_rfl)
        conv=>whnf
        rw[h78]
        conv=>whnf
        exact⟨⟨_,rfl⟩,_,rfl,stp (Sub.refl _) rfl⟩
      · cases ho'
        have h70:V 70=.bool true:=get 70 (by kernel_rfl)
        have h79:V 79=.bool true:=get 79 (by kernel_rfl)
        conv=>whnf
        rw[h70]
        conv=>whnf
        exact⟨⟨_,rfl⟩,_,rfl,stp (Sub.refl _) h79⟩
      · cases ho'
        have h80:V 80=.bool true:=get 80 (by kernel_rfl)
        conv=>whnf
        exact⟨⟨_,rfl⟩,_,rfl,stp (Sub.refl _) h80⟩
    · intro L V H5 O5 hI hall
      have hO5:=hI.own
      subst hO5
      have h81:V 81=.bool true:=hI.sp 81 (hall 81 (by decide))
      conv=>whnf
      exact h81
end Go.Proofs.YtodmckckapmmoaaGreatDoor

namespace Go.Proofs.YtodmckckapmmoaaGreatDoor
open Go.Proofs.YtodmckckapmmoaaGreatDoor.X Go.Proofs.YtodmckckapmmoaaGreatDoor.X.PH
set_option maxRecDepth 100000
theorem great_not {m : Mx} {n:Nat} (h:greatF m n=false):m.length≤n∧∀ r∈m,r.length≤n:=by
  unfold greatF at h
  rw[Bool.or_eq_false_iff] at h
  refine⟨by have:=of_decide_eq_false h.1;omega,fun r hr=>?_⟩
  have:=(List.any_eq_false.1 h.2) r hr
  simp at this
  omega
theorem e6 (m n : Mx) (hm:m.length < 9223372036854775808) (hn:n.length < 9223372036854775808) (H:PH) (u v:Value) (hG:GlobH H) (hu:MatH H u m) (hv:MatH H v n):Cl Tryz.prog 6 [u,v] H emp fun r _ _=>r=.bool true:=by
  obtain⟨ub,uc,rfl⟩:=MatH.sl hu
  obtain⟨vb,vc,rfl⟩:=MatH.sl hv
  refine Cl_of (pol:=polL) Γok Tryz.func6 (by kernel_rfl) rfl ?_
  conv=>whnf
  refine (c26 m 18 _ _ hu hm).val fun H1 s1=>?_
  conv=>whnf
  refine if_intro (fun h1=>?_) (fun h1=>?_)
  · conv=>whnf
    refine (e9 _ (hG.up s1)).val fun H2 s2=>?_
    conv=>whnf
  conv=>whnf
  refine (c26 n 18 _ _ (hv.up s1) hn).val fun H2 s2=>?_
  conv=>whnf
  refine if_intro (fun h2=>?_) (fun h2=>?_)
  · conv=>whnf
    refine (e9 _ (hG.up (s1.trans s2))).val fun H3 s3=>?_
    conv=>whnf
  obtain⟨a1,a2⟩:=great_not (n:=18) h1
  obtain⟨b1,b2⟩:=great_not (n:=18) h2
  have t2:=s1.trans s2
  replace hu:=hu.up t2
  replace hv:=hv.up t2
  replace hG:=hG.up t2
  conv=>whnf
  refine (c15' m _ _ hu (by omega) (fun r hr=>by have:=a2 r hr;omega)).use fun x H3 s3 hr=>?_
  obtain⟨_,hx⟩:=hr
  obtain⟨xb,xc,rfl⟩:=MatH.sl hx
  replace hu:=hu.up s3
  replace hv:=hv.up s3
  replace hG:=hG.up s3
  conv=>whnf
  refine (c15' n _ _ hv (by omega) (fun r hr=>by have:=b2 r hr;omega)).use fun y H4 s4 hr=>?_
  obtain⟨_,hy⟩:=hr
  obtain⟨yb,yc,rfl⟩:=MatH.sl hy
  replace hu:=hu.up s4
  replace hv:=hv.up s4
  replace hG:=hG.up s4
  replace hx:=hx.up s4
  conv=>whnf
  refine (e46 m n _ _ _ hu hv).val fun H5 s5=>?_
  replace hu:=hu.up s5
  replace hv:=hv.up s5
  replace hG:=hG.up s5
  replace hx:=hx.up s5
  replace hy:=hy.up s5
  conv=>whnf
  refine (e47 m n (by omega) (by omega) _ _ _ hx hy).val fun H6 s6=>?_
  replace hu:=hu.up s6
  replace hv:=hv.up s6
  replace hG:=hG.up s6
  replace hx:=hx.up s6
  replace hy:=hy.up s6
  conv=>whnf
  refine (e48 m (by omega) _ _ hx).val fun H7 s7=>?_
  replace hu:=hu.up s7
  replace hv:=hv.up s7
  replace hG:=hG.up s7
  replace hx:=hx.up s7
  replace hy:=hy.up s7
  conv=>whnf
  refine (e49 m _ _ hu).val fun H8 s8=>?_
  replace hu:=hu.up s8
  replace hv:=hv.up s8
  replace hG:=hG.up s8
  replace hx:=hx.up s8
  replace hy:=hy.up s8
  conv=>whnf
  rw[beq_self_eq_true]
  conv=>whnf
  rw[beq_self_eq_true]
  conv=>whnf
  rw[beq_self_eq_true]
  conv=>whnf
  have hs1:=e18 m m _ _ _ hx hu (by omega) (fun r hr=>by have:=a2 r hr;omega)
  rw[eqM_refl] at hs1
  refine hs1.val fun H9 s9=>?_
  conv=>whnf
  have hs2:=e18 n n _ _ _ (hy.up s9) (hv.up s9) (by omega) (fun r hr=>by have:=b2 r hr;omega)
  rw[eqM_refl] at hs2
  refine hs2.val fun H10 s10=>?_
  conv=>whnf
  refine (e9 _ ((hG.up s9).up s10)).val fun H11 s11=>?_
  conv=>whnf
end Go.Proofs.YtodmckckapmmoaaGreatDoor

namespace Go.Proofs.YtodmckckapmmoaaGreatDoor
open Go.Proofs.YtodmckckapmmoaaGreatDoor.X Go.Proofs.YtodmckckapmmoaaGreatDoor.X.PH Go.ChangeShapes Go.WideShapes Go.ChangeAt Go.RowKit Go.Deep
set_option maxRecDepth 100000
theorem Cl.calls {f : FuncId} {args:List Value} {W:World} {Q:Value→Prop} (h:Cl Tryz.prog f args (heapP W) emp fun v _ _=>Q v):Calls Tryz.prog f args.toArray W fun e W'=>∃ v,e=.returned v∧Below W.heap.size W W'∧Q v:=by
  unfold Cl at h
  refine (h.2 W (fun n o hn=>hn) (fun n o hn=>by cases hn) (.emp _)).mono ?_
  rintro e W' ⟨v,H',M',he,hp,hq⟩
  exact⟨v,he,hp.frm.below,hq⟩
end Go.Proofs.YtodmckckapmmoaaGreatDoor

namespace Go.Proofs.YtodmckckapmmoaaGreatDoor
open Go.Proofs.YtodmckckapmmoaaGreatDoor.X Go.Proofs.YtodmckckapmmoaaGreatDoor.X.PH Go.ChangeShapes Go.WideShapes Go.ChangeAt Go.RowKit Go.Deep
set_option maxRecDepth 100000
section
variable {H : Type} {enc : TypeId × Value → H} {W : World}
theorem open_nv {r : Reach} {base:Nat} {v:Value} {d:DataW H} {p:List MemPlace} (hv:Value.okWide Tryz.prog W r base 25 v) (h:DataW.Trod enc Tryz.prog W 0 (fun _=>true) true 25 v d p):∃ y:P4 × Int,v=nv y:=by
  obtain⟨cs,rfl,_⟩:=okWide_struct Tryz.underlying25 hv
  obtain⟨fuel,h⟩:=h
  obtain⟨y,hy⟩:=open_num h
  refine⟨y,?_⟩
  obtain⟨cs⟩:=cs
  have hy:cs=cellsOf y:=hy
  rw[hy]
  rfl
end
end Go.Proofs.YtodmckckapmmoaaGreatDoor

namespace Go.Proofs.YtodmckckapmmoaaGreatDoor
open Go.Proofs.YtodmckckapmmoaaGreatDoor.X Go.Proofs.YtodmckckapmmoaaGreatDoor.X.PH Go.ChangeShapes Go.WideShapes Go.ChangeAt Go.RowKit Go.Deep
set_option maxRecDepth 100000
section
variable {H : Type} {enc : TypeId × Value → H} {W : World}
end
end Go.Proofs.YtodmckckapmmoaaGreatDoor

namespace Go.Proofs.YtodmckckapmmoaaGreatDoor
open Go.Proofs.YtodmckckapmmoaaGreatDoor.X Go.Proofs.YtodmckckapmmoaaGreatDoor.X.PH Go.ChangeShapes Go.WideShapes Go.ChangeAt Go.RowKit Go.Deep
set_option maxRecDepth 100000
section
variable {H : Type} {enc : TypeId × Value → H} {W : World}
theorem open_int {r : Reach} {base:Nat} {v:Value} {d:DataW H} {p:List MemPlace} (hv:Value.okWide Tryz.prog W r base 3 v) (_:DataW.Trod enc Tryz.prog W 0 (fun _=>true) true 3 v d p):∃ n,v=.int .i64 n∧(-9223372036854775808≤n∧n < 9223372036854775808):=by
  have hv':=hv
  obtain⟨n,rfl⟩:=okWide_int Tryz.underlying3 hv
  refine⟨n,rfl,?_⟩
  simp only[Value.okWide,Tryz.underlying3,Cell.okWide,Cell.ok] at hv'
  have h:=hv'.2
  unfold IntKind.has at h
  exact⟨h.1,by have:=h.2;have e:IntKind.i64.max=9223372036854775807:=rfl;omega⟩
end
end Go.Proofs.YtodmckckapmmoaaGreatDoor

namespace Go.Proofs.YtodmckckapmmoaaGreatDoor
open Go.Proofs.YtodmckckapmmoaaGreatDoor.X Go.Proofs.YtodmckckapmmoaaGreatDoor.X.PH Go.ChangeShapes Go.WideShapes Go.ChangeAt Go.RowKit Go.Deep
set_option maxRecDepth 100000
section
variable {H : Type} {enc : TypeId × Value → H} {W : World}
end
end Go.Proofs.YtodmckckapmmoaaGreatDoor

namespace Go.Proofs.YtodmckckapmmoaaGreatDoor
open Go.Proofs.YtodmckckapmmoaaGreatDoor.X Go.Proofs.YtodmckckapmmoaaGreatDoor.X.PH Go.ChangeShapes Go.WideShapes Go.ChangeAt Go.RowKit Go.Deep
set_option maxRecDepth 100000
abbrev laid2 : List (String × DataW Unit) := [("spoondrift/spoondriftlaw16.root", Rows.laid_spoondrift_spoondriftlaw16_root), ("spoondrift/spoondriftlaw16.half", Rows.laid_spoondrift_spoondriftlaw16_half)]
theorem gRoot : Tryz.prog.globalNamed "spoondrift/spoondriftlaw16.root" = some 1 := by kernel_rfl
theorem gHalf : Tryz.prog.globalNamed "spoondrift/spoondriftlaw16.half" = some 0 := by kernel_rfl
theorem tRoot : (Tryz.prog.globals[1]?).map (·.type)=some 25:=by kernel_rfl
theorem tHalf : (Tryz.prog.globals[0]?).map (·.type)=some 25:=by kernel_rfl
theorem door_met (os : Os) (args:Array Value):laidMetH Tryz.prog laid2 ((World.doorLaid Tryz.prog 400 os).forCall (fun _ _=>0) ⟨#[],args,[]⟩).memory:=
  laidMetH_of_parts3 (fuel:=8) (laidMet_of_run' 8 (by kernel_rfl) (by kernel_rfl)) (by kernel_rfl) (by kernel_rfl)
section
variable {W : World}
theorem glob_num {fuel : Nat} {cs:List Value} {k0 k1 k2 k3 k4:Int} {p:List MemPlace} (h:DataW.trod (fun _=>()) Tryz.prog W 0 (fun _=>true) false fuel 25 cs=some (.agg [.lit (.int .i64 k0),.lit (.int .i64 k1),.lit (.int .i64 k2),.lit (.int .i64 k3),.lit (.int .i64 k4)],p)):cs=[.int .i64 k0,.int .i64 k1,.int .i64 k2,.int .i64 k3,.int .i64 k4]:=by
  obtain⟨xs,n,rfl,e,hl,hx,hf⟩:=DataW.trod_struct Tryz.underlying25 h
  rw[cells28] at hl
  have hx5:xs.length=5:=hx
  simp only[Prod.mk.injEq,DataW.agg.injEq] at e
  have he:=e.1
  have key : ∀ (i : Nat) (f : Field), #[{ name := "A", type := 3, offset := 0, embedded := false, tag := "", pkgPath := "", byteOffset := 0 : Field }, { name := "B", type := 3, offset := 1, embedded := false, tag := "", pkgPath := "", byteOffset := 8 }, { name := "C", type := 3, offset := 2, embedded := false, tag := "", pkgPath := "", byteOffset := 16 }, { name := "D", type := 3, offset := 3, embedded := false, tag := "", pkgPath := "", byteOffset := 24 }, { name := "K", type := 3, offset := 4, embedded := false, tag := "", pkgPath := "", byteOffset := 32 }][i]? = some f → f.type = 3 → f.offset = i → i < 5 → ∃ k, cs[i]? = some (.int .i64 k) ∧ ([DataW.lit (.int .i64 k0), .lit (.int .i64 k1), .lit (.int .i64 k2), .lit (.int .i64 k3), .lit (.int .i64 k4)] : List (DataW Unit))[i]? = some (.lit (.int .i64 k)) := by
    intro i f hfi ht ho hi
    have:=hf i f hfi
    rw[ht,ho,cells3] at this
    rw[List.getElem?_eq_getElem (by omega)] at this
    obtain⟨k,hk,e2,_⟩:=DataW.trod_int Tryz.underlying3 this
    refine⟨k,?_,?_⟩
    · have:=congrArg (·[0]?) hk
      simpa[List.getElem?_take,List.getElem?_drop] using this
    · rw[he,List.getElem?_map,List.getElem?_eq_getElem (by omega),e2]
      rfl
  obtain⟨q0,h0,i0⟩:=key 0 _ rfl rfl rfl (by decide)
  obtain⟨q1,h1,i1⟩:=key 1 _ rfl rfl rfl (by decide)
  obtain⟨q2,h2,i2⟩:=key 2 _ rfl rfl rfl (by decide)
  obtain⟨q3,h3,i3⟩:=key 3 _ rfl rfl rfl (by decide)
  obtain⟨q4,h4,i4⟩:=key 4 _ rfl rfl rfl (by decide)
  simp at i0 i1 i2 i3 i4
  subst i0 i1 i2 i3 i4
  match cs,hl with
  | [a,b,c,d,e],_=>
    simp at h0 h1 h2 h3 h4
    subst h0 h1 h2 h3 h4
    rfl
theorem glob_cell {g : Nat} {n:String} {cs:Array Value} {k:Int} (hg:Tryz.prog.globalNamed n=some g) (hv:W.var? Tryz.prog n=some cs) (hc:cs.toList=[.int .i64 1,.int .i64 0,.int .i64 0,.int .i64 0,.int .i64 k]):Rd (heapP W) emp ⟨g,0,none⟩ 5 [.int .i64 1,.int .i64 0,.int .i64 0,.int .i64 0,.int .i64 k]:=by
  obtain⟨l⟩:=cs
  have hc:l=[.int .i64 1,.int .i64 0,.int .i64 0,.int .i64 0,.int .i64 k]:=hc
  subst hc
  have c0:=World.var?_cell hg hv 0
  have c1:=World.var?_cell hg hv 1
  have c2:=World.var?_cell hg hv 2
  have c3:=World.var?_cell hg hv 3
  have c4:=World.var?_cell hg hv 4
  obtain⟨b,off,c,t,fr,e,hb,h0⟩:=one_block (v:=.int .i64 1) (by simpa using c0)
  cases e
  obtain⟨_,_,c',t',fr',e,hb',h1⟩:=one_block (v:=.int .i64 0) (by simpa using c1)
  cases e
  rw[hb] at hb';cases hb'
  obtain⟨_,_,c',t',fr',e,hb',h2⟩:=one_block (v:=.int .i64 0) (by simpa using c2)
  cases e
  rw[hb] at hb';cases hb'
  obtain⟨_,_,c',t',fr',e,hb',h3⟩:=one_block (v:=.int .i64 0) (by simpa using c3)
  cases e
  rw[hb] at hb';cases hb'
  obtain⟨_,_,c',t',fr',e,hb',h4⟩:=one_block (v:=.int .i64 k) (by simpa using c4)
  cases e
  rw[hb] at hb';cases hb'
  refine⟨rfl,rfl,c,t,fr,.inl hb,?_⟩
  apply List.ext_getElem?
  intro i
  rw[List.getElem?_take,List.drop_zero]
  match i with
  | 0=>simpa using h0
  | 1=>simpa using h1
  | 2=>simpa using h2
  | 3=>simpa using h3
  | 4=>simpa using h4
  | i+5=>
    simp
    omega
theorem glob_of_laid (h : laidMetH Tryz.prog laid2 W):GlobH (heapP W):=by
  rw[MakeChecks.laidMetH_plain _ _ _ (by kernel_rfl)] at h
  obtain⟨ps,⟨g0,t0,cs0,f0,p0,q0,hg0,ht0,hv0,hd0,⟨g1,t1,cs1,f1,p1,q1,hg1,ht1,hv1,hd1,_,_⟩,_⟩,_,_⟩:=h
  obtain rfl:=Option.some.inj (gRoot.symm.trans hg0)
  obtain rfl:=Option.some.inj (gHalf.symm.trans hg1)
  obtain rfl:=Option.some.inj (tRoot.symm.trans ht0)
  obtain rfl:=Option.some.inj (tHalf.symm.trans ht1)
  exact⟨glob_cell hg1 hv1 (glob_num hd1),glob_cell hg0 hv0 (glob_num hd0)⟩
end
section
variable {H : Type} {enc : TypeId × Value → H} {W : World}
theorem open_vec {a0 : Option Addr} {n0 c0:Nat} {d:DataW H} {p:List MemPlace} (h:DataW.Trod enc Tryz.prog W 0 (fun _=>true) true 22 (.slice a0 n0 c0) d p):∃ l,NumH (heapP W) (.slice a0 n0 c0) l∧l.length≤maxLen:=by
  obtain⟨fuel,h⟩:=h
  obtain⟨v,l,hv,hl⟩:=open_row h
  simp[Value.cells] at hv
  subst hv
  refine⟨l,hl,?_⟩
  obtain⟨base,cap,e,_⟩:=id hl
  cases e
  rcases open_slice Tryz.underlying22 h with⟨hv,_⟩ | ⟨a,len,cap,m,n,D,Pl,hv,_,hl,hmax,hm,_,hx⟩
  · simp[Value.cells] at hv
    obtain⟨_,e,_⟩:=hv
    rw[e]
    exact Nat.zero_le _
  · simp[Value.cells] at hv
    obtain⟨_,rfl,_⟩:=hv
    omega
end
end Go.Proofs.YtodmckckapmmoaaGreatDoor

namespace Go.Proofs.YtodmckckapmmoaaGreatDoor
open Go.Proofs.YtodmckckapmmoaaGreatDoor.X Go.Proofs.YtodmckckapmmoaaGreatDoor.X.PH
set_option maxRecDepth 100000
theorem e18L {B H O : PH} {l:List (Value × Mx)} {u v:Value} {x:Mx} (hl:OwnL B O l) (hm:(u,x)∈l) (hv:MatH H v x):Cl Tryz.prog 18 [u,v] H O fun r _ O'=>Sub O O'∧r=.bool true:=by
  have hq:=hl.mem hm
  have hlen:=hq.len
  have hent:=(e18 [] [] emp _ _ (nilM _) (nilM _) (by simp) (by simp)).ent
  have h:=Cl.share' (H:=H) (R:=O) (Q:=fun r=>r=.bool (eqM x x)) (show Ent Tryz.prog 18 from hent) (args:=[u,v]) fun hd=>e18 x x _ _ _ (hq.share hd) (hv.up un_l) hlen.1 hlen.2
  rw[eqM_refl] at h
  exact h
set_option maxHeartbeats 4000000 in
theorem e3 (l : Vec) (m n:Mx) (x y:P4 × Int) (k:Int) (hk:-9223372036854775808≤k∧k < 9223372036854775808) (hll:l.length < 9223372036854775808) (hlm:m.length < 9223372036854775808) (hln:n.length < 9223372036854775808) (H:PH) (v u w:Value) (hG:GlobH H) (hv:NumH H v l) (hu:MatH H u m) (hw:MatH H w n) :
    Cl Tryz.prog 3 [v,u,w,nv x,nv y,.int .i64 k] H emp fun r _ _=>r=.bool true:=by
  obtain⟨lb,lc,rfl,_⟩:=id hv
  obtain⟨ub,uc,rfl⟩:=MatH.sl hu
  obtain⟨wb,wc,rfl⟩:=MatH.sl hw
  refine Cl_of (pol:=fun | 35=>.imm | 36=>.imm | 37=>.imm | 116=>.own | _=>.loc) Γok Tryz.func3 (by kernel_rfl) rfl ?_
  conv=>whnf
  intro bx
  conv=>whnf
  intro bz
  conv=>whnf
  refine if_intro (fun h66=>?_) (fun h66=>?_)
  · conv=>whnf
    refine (e9 _ hG).val fun H1 s1=>?_
    conv=>whnf
  have h66:l.length≤66:=by
    have:=of_decide_eq_false h66
    omega
  conv=>whnf
  intro b hb _
  conv=>whnf
  have s1:=sub_ins H (.cells ⟨[.slice ub m.length uc,.slice wb n.length wc]⟩ 23 (0,0)) hb
  refine (e8 [m,n] _ _ (pair_mats (ins_same _ _ _) (hu.up s1) (hw.up s1)) (by simp) (by simp;omega)).val fun H1 s2=>?_
  have s12:=s1.trans s2
  replace hG:=GlobH.up hG s12
  replace hv:=NumH.up hv s12
  replace hu:=MatH.up hu s12
  replace hw:=MatH.up hw s12
  conv=>whnf
  refine if_intro (fun hg=>?_) (fun hg=>?_)
  · conv=>whnf
    refine (e9 _ hG).val fun H2 s3=>?_
    conv=>whnf
  rw[List.any_eq_false] at hg
  obtain⟨hm8,hmr⟩:=great_not (m:=m) (n:=8) (by simpa using hg m (by simp))
  obtain⟨hn8,hnr⟩:=great_not (m:=n) (n:=8) (by simpa using hg n (by simp))
  conv=>whnf
  refine (c43' l _ _ hv (by omega)).use fun p H2 s3 hp=>?_
  obtain⟨_,hp⟩:=hp
  obtain⟨pb,pc,rfl,_⟩:=id hp
  replace hG:=GlobH.up hG s3
  replace hv:=NumH.up hv s3
  replace hu:=MatH.up hu s3
  replace hw:=MatH.up hw s3
  conv=>whnf
  refine (c15' m _ _ hu (by omega) (fun r hr=>by have:=hmr r hr;omega)).use fun q H3 s4 hq=>?_
  obtain⟨_,hq⟩:=hq
  obtain⟨qb,qc,rfl⟩:=MatH.sl hq
  replace hG:=GlobH.up hG s4
  replace hv:=NumH.up hv s4
  replace hu:=MatH.up hu s4
  replace hw:=MatH.up hw s4
  replace hp:=NumH.up hp s4
  conv=>whnf
  refine (c15' n _ _ hw (by omega) (fun r hr=>by have:=hnr r hr;omega)).use fun t H4 s5 ht=>?_
  obtain⟨_,ht⟩:=ht
  obtain⟨tb,tc,rfl⟩:=MatH.sl ht
  replace hG:=GlobH.up hG s5
  replace hv:=NumH.up hv s5
  replace hu:=MatH.up hu s5
  replace hw:=MatH.up hw s5
  replace hp:=NumH.up hp s5
  replace hq:=MatH.up hq s5
  conv=>whnf
  refine (e12 l (by omega) _ _ hv).use fun r H6 s6 hr=>?_
  obtain⟨_,w1,rfl,hw1⟩:=hr
  replace hG:=GlobH.up hG s6
  replace hv:=NumH.up hv s6
  replace hu:=MatH.up hu s6
  replace hw:=MatH.up hw s6
  replace hp:=NumH.up hp s6
  replace hq:=MatH.up hq s6
  replace ht:=MatH.up ht s6
  conv=>whnf
  refine (e13 k hk _).use fun r H7 s7 hr=>?_
  obtain⟨_,w2,rfl,hw2⟩:=hr
  replace hG:=GlobH.up hG s7
  replace hv:=NumH.up hv s7
  replace hu:=MatH.up hu s7
  replace hw:=MatH.up hw s7
  replace hp:=NumH.up hp s7
  replace hq:=MatH.up hq s7
  replace ht:=MatH.up ht s7
  replace hw1:=MatH.up hw1 s7
  conv=>whnf
  refine (e14 m n x y _ _ _ hu hw).use fun r H8 s8 hr=>?_
  obtain⟨_,w3,rfl,hw3⟩:=hr
  replace hG:=GlobH.up hG s8
  replace hv:=NumH.up hv s8
  replace hu:=MatH.up hu s8
  replace hw:=MatH.up hw s8
  replace hp:=NumH.up hp s8
  replace hq:=MatH.up hq s8
  replace ht:=MatH.up ht s8
  replace hw1:=MatH.up hw1 s8
  replace hw2:=MatH.up hw2 s8
  conv=>whnf
  have k1:OwnL emp emp []:=Sub.refl _
  refine (k1.call (e15 l (by omega) _ _ hp)).mono fun r H9 O9 s9 hr=>?_
  obtain⟨a1,rfl,k2⟩:=hr
  replace hG:=GlobH.up hG s9
  replace hv:=NumH.up hv s9
  replace hu:=MatH.up hu s9
  replace hw:=MatH.up hw s9
  replace hp:=NumH.up hp s9
  replace hq:=MatH.up hq s9
  replace ht:=MatH.up ht s9
  replace hw1:=MatH.up hw1 s9
  replace hw2:=MatH.up hw2 s9
  replace hw3:=MatH.up hw3 s9
  conv=>whnf
  refine (k2.call (e16 k hk _)).mono fun r H10 O10 s10 hr=>?_
  obtain⟨a2,rfl,k3⟩:=hr
  replace hG:=GlobH.up hG s10
  replace hv:=NumH.up hv s10
  replace hu:=MatH.up hu s10
  replace hw:=MatH.up hw s10
  replace hp:=NumH.up hp s10
  replace hq:=MatH.up hq s10
  replace ht:=MatH.up ht s10
  replace hw1:=MatH.up hw1 s10
  replace hw2:=MatH.up hw2 s10
  replace hw3:=MatH.up hw3 s10
  conv=>whnf
  refine (k3.call (e17 m n x y (by omega) (by omega) _ _ _ hq ht)).mono fun r H11 O11 s11 hr=>?_
  obtain⟨a3,rfl,k4⟩:=hr
  replace hG:=GlobH.up hG s11
  replace hv:=NumH.up hv s11
  replace hu:=MatH.up hu s11
  replace hw:=MatH.up hw s11
  replace hp:=NumH.up hp s11
  replace hq:=MatH.up hq s11
  replace ht:=MatH.up ht s11
  replace hw1:=MatH.up hw1 s11
  replace hw2:=MatH.up hw2 s11
  replace hw3:=MatH.up hw3 s11
  conv=>whnf
  generalize ofV l=A1 at *
  generalize mixedI k=A2 at *
  generalize mixM m n x y=A3 at *
  replace k4:OwnL emp O11 [(a1,A1.1),(a2,A2.1),(a3,A3.1)]:=k4
  clear k1 k2 k3
  rw[bne_self_eq_false]
  conv=>whnf
  rw[bne_self_eq_false]
  conv=>whnf
  rw[bne_self_eq_false]
  conv=>whnf
  refine (e18L k4 (by simp) hw1).mono fun r H12 O12 s12 hr=>?_
  obtain⟨o1,rfl⟩:=hr
  replace k4:=k4.up o1
  replace hG:=GlobH.up hG s12
  replace hv:=NumH.up hv s12
  replace hu:=MatH.up hu s12
  replace hw:=MatH.up hw s12
  replace hp:=NumH.up hp s12
  replace hq:=MatH.up hq s12
  replace ht:=MatH.up ht s12
  replace hw1:=MatH.up hw1 s12
  replace hw2:=MatH.up hw2 s12
  replace hw3:=MatH.up hw3 s12
  conv=>whnf
  refine (e18L k4 (by simp) hw2).mono fun r H13 O13 s13 hr=>?_
  obtain⟨o2,rfl⟩:=hr
  replace k4:=k4.up o2
  replace hG:=GlobH.up hG s13
  replace hv:=NumH.up hv s13
  replace hu:=MatH.up hu s13
  replace hw:=MatH.up hw s13
  replace hp:=NumH.up hp s13
  replace hq:=MatH.up hq s13
  replace ht:=MatH.up ht s13
  replace hw1:=MatH.up hw1 s13
  replace hw2:=MatH.up hw2 s13
  replace hw3:=MatH.up hw3 s13
  conv=>whnf
  refine (e18L k4 (by simp) hw3).mono fun r H14 O14 s14 hr=>?_
  obtain⟨o3,rfl⟩:=hr
  replace k4:=k4.up o3
  replace hG:=GlobH.up hG s14
  replace hv:=NumH.up hv s14
  replace hu:=MatH.up hu s14
  replace hw:=MatH.up hw s14
  replace hp:=NumH.up hp s14
  replace hq:=MatH.up hq s14
  replace ht:=MatH.up ht s14
  replace hw1:=MatH.up hw1 s14
  replace hw2:=MatH.up hw2 s14
  replace hw3:=MatH.up hw3 s14
  conv=>whnf
  obtain⟨y1,y2,y3,rfl⟩:=(k4.mem (u:=a1) (x:=A1.1) (by simp)).sl
  obtain⟨z1,z2,z3,rfl⟩:=(k4.mem (u:=a2) (x:=A2.1) (by simp)).sl
  obtain⟨v1,v2,v3,rfl⟩:=(k4.mem (u:=a3) (x:=A3.1) (by simp)).sl
  conv=>whnf
  intro bs _ hbs
  replace k4:=k4.ins (o:=.cells ⟨[.slice y1 y2 y3,.slice z1 z2 z3,.slice v1 v2 v3]⟩ 23 (0,0)) hbs
  conv=>whnf
  refine W_loop (pol:=polL) Γok (Nat × PH × PH) (fun i=>i.1≤3∧Sub H14 i.2.1∧OwnL (ins emp bs (.cells ⟨[.slice y1 y2 y3,.slice z1 z2 z3,.slice v1 v2 v3]⟩ 23 (0,0))) i.2.2 (List.drop i.1 [(.slice y1 y2 y3,A1.1),(.slice z1 z2 z3,A2.1),(.slice v1 v2 v3,A3.1)])) (fun i=>3 - i.1) (fun i=>[(118,.v (.int .i64 i.1))]) (fun _=>[]) (fun i=>i.2.1) (fun i=>i.2.2) ⟨(0,H14,_),⟨by simp,Sub.refl _,k4⟩,rfl,rfl,?_⟩ ?_
  · conv=>whnf
    repeat (refine⟨rfl,?_⟩;conv=>whnf)
    exact trivial
  rintro ⟨i,H16,O16⟩ ⟨h1,t9,k6⟩
  dsimp only at h1 t9 k6
  rcases (show i=0∨i=1∨i=2∨i=3 by omega) with rfl | rfl | rfl | rfl
  · conv=>whnf
    refine⟨[.slice y1 y2 y3],⟨rfl,rfl,_,_,_,.inr (k6.rem _ _ (ins_same _ _ _)),rfl⟩,?_⟩
    conv=>whnf
    refine (c24L k6).mono fun r H17 O17 t10 k7=>?_
    conv=>whnf
    refine⟨(1,H17,O17),⟨by dsimp only;omega,t9.trans t10,k7⟩,by dsimp only;omega,?_⟩
    conv=>whnf
    refine⟨rfl,rfl,?_⟩
    conv=>whnf
    repeat (refine⟨rfl,?_⟩;conv=>whnf)
    exact trivial
  · conv=>whnf
    refine⟨[.slice z1 z2 z3],⟨rfl,rfl,_,_,_,.inr (k6.rem _ _ (ins_same _ _ _)),rfl⟩,?_⟩
    conv=>whnf
    refine (c24L k6).mono fun r H17 O17 t10 k7=>?_
    conv=>whnf
    refine⟨(2,H17,O17),⟨by dsimp only;omega,t9.trans t10,k7⟩,by dsimp only;omega,?_⟩
    conv=>whnf
    refine⟨rfl,rfl,?_⟩
    conv=>whnf
    repeat (refine⟨rfl,?_⟩;conv=>whnf)
    exact trivial
  · conv=>whnf
    refine⟨[.slice v1 v2 v3],⟨rfl,rfl,_,_,_,.inr (k6.rem _ _ (ins_same _ _ _)),rfl⟩,?_⟩
    conv=>whnf
    refine (c24L k6).mono fun r H17 O17 t10 k7=>?_
    conv=>whnf
    refine⟨(3,H17,O17),⟨by dsimp only;omega,t9.trans t10,k7⟩,by dsimp only;omega,?_⟩
    conv=>whnf
    refine⟨rfl,rfl,?_⟩
    conv=>whnf
    repeat (refine⟨rfl,?_⟩;conv=>whnf)
    exact trivial
  conv=>whnf
  replace hG:=GlobH.up hG t9
  replace hv:=NumH.up hv t9
  replace hu:=MatH.up hu t9
  replace hw:=MatH.up hw t9
  replace hp:=NumH.up hp t9
  replace hq:=MatH.up hq t9
  replace ht:=MatH.up ht t9
  replace hw1:=MatH.up hw1 t9
  replace hw2:=MatH.up hw2 t9
  replace hw3:=MatH.up hw3 t9
  have hl1:=c48 l l _ _ _ hp hv (by omega)
  rw[eqL_refl] at hl1
  refine hl1.val fun H20 t13=>?_
  replace hG:=GlobH.up hG t13
  replace hv:=NumH.up hv t13
  replace hu:=MatH.up hu t13
  replace hw:=MatH.up hw t13
  replace hp:=NumH.up hp t13
  replace hq:=MatH.up hq t13
  replace ht:=MatH.up ht t13
  replace hw1:=MatH.up hw1 t13
  replace hw2:=MatH.up hw2 t13
  replace hw3:=MatH.up hw3 t13
  conv=>whnf
  have hs1:=e18 m m _ _ _ hq hu (by omega) (fun r hr=>by have:=hmr r hr;omega)
  rw[eqM_refl] at hs1
  refine hs1.val fun H21 t14=>?_
  replace hG:=GlobH.up hG t14
  replace hv:=NumH.up hv t14
  replace hu:=MatH.up hu t14
  replace hw:=MatH.up hw t14
  replace hp:=NumH.up hp t14
  replace hq:=MatH.up hq t14
  replace ht:=MatH.up ht t14
  replace hw1:=MatH.up hw1 t14
  replace hw2:=MatH.up hw2 t14
  replace hw3:=MatH.up hw3 t14
  conv=>whnf
  have hs2:=e18 n n _ _ _ ht hw (by omega) (fun r hr=>by have:=hnr r hr;omega)
  rw[eqM_refl] at hs2
  refine hs2.val fun H22 t15=>?_
  replace hG:=GlobH.up hG t15
  replace hv:=NumH.up hv t15
  replace hu:=MatH.up hu t15
  replace hw:=MatH.up hw t15
  replace hp:=NumH.up hp t15
  replace hq:=MatH.up hq t15
  replace ht:=MatH.up ht t15
  replace hw1:=MatH.up hw1 t15
  replace hw2:=MatH.up hw2 t15
  replace hw3:=MatH.up hw3 t15
  conv=>whnf
  refine (e9 _ hG).val fun H23 t16=>?_
  conv=>whnf
end Go.Proofs.YtodmckckapmmoaaGreatDoor

namespace Go.Proofs.YtodmckckapmmoaaGreatDoor
open Go.Proofs.YtodmckckapmmoaaGreatDoor.X Go.Proofs.YtodmckckapmmoaaGreatDoor.X.PH Go.ChangeShapes Go.WideShapes Go.ChangeAt Go.RowKit Go.Deep
set_option maxRecDepth 100000
instance : Inhabited Gt := ⟨⟨0, [], 0, 0⟩⟩
section
variable {H : Type} {enc : TypeId × Value → H} {W : World}
end
end Go.Proofs.YtodmckckapmmoaaGreatDoor

namespace Go.Proofs.YtodmckckapmmoaaGreatDoor
open Go Go.Proofs.YtodmckckapmmoaaGreatDoor.X Go.Proofs.YtodmckckapmmoaaGreatDoor.X.PH Go.ChangeShapes Go.WideShapes Go.ChangeAt Go.RowKit Go.Deep
set_option maxRecDepth 100000
section
variable {H : Type} {enc : TypeId × Value → H} {P : Program} {w : World} {base : Nat} {spare : Nat → Bool} {held : Bool}
theorem trodAll_six {t0 t1 t2 t3 t4 t5 : TypeId} {args:Array Value} {ds:List (DataW H)} {ps:List MemPlace} (h:DataW.TrodAll enc P w base spare held [t0,t1,t2,t3,t4,t5] args.toList ds ps) :
    ∃ v0 v1 v2 v3 v4 v5 d0 d1 d2 d3 d4 d5 p0 p1 p2 p3 p4 p5,args=#[v0,v1,v2,v3,v4,v5]∧ds=[d0,d1,d2,d3,d4,d5]∧ps=p0++(p1++(p2++(p3++(p4++p5))))∧DataW.Trod enc P w base spare held t0 v0 d0 p0∧DataW.Trod enc P w base spare held t1 v1 d1 p1∧DataW.Trod enc P w base spare held t2 v2 d2 p2∧DataW.Trod enc P w base spare held t3 v3 d3 p3∧DataW.Trod enc P w base spare held t4 v4 d4 p4∧DataW.Trod enc P w base spare held t5 v5 d5 p5:=by
  obtain⟨v0,vs0,d0,ds0,p0,q0,hargs,rfl,rfl,h0,r0⟩:=trodAll_cons h
  obtain⟨v1,vs1,d1,ds1,p1,q1,rfl,rfl,rfl,h1,r1⟩:=trodAll_cons r0
  obtain⟨v2,vs2,d2,ds2,p2,q2,rfl,rfl,rfl,h2,r2⟩:=trodAll_cons r1
  obtain⟨v3,vs3,d3,ds3,p3,q3,rfl,rfl,rfl,h3,r3⟩:=trodAll_cons r2
  obtain⟨v4,vs4,d4,ds4,p4,q4,rfl,rfl,rfl,h4,r4⟩:=trodAll_cons r3
  obtain⟨v5,vs5,d5,ds5,p5,q5,rfl,rfl,rfl,h5,r5⟩:=trodAll_cons r4
  obtain⟨rfl,rfl,rfl⟩:=trodAll_nil r5
  exact⟨v0,v1,v2,v3,v4,v5,d0,d1,d2,d3,d4,d5,p0,p1,p2,p3,p4,p5,by cases args;simp_all,rfl,by simp,h0,h1,h2,h3,h4,h5⟩
theorem trodAll_mk6 {t0 t1 t2 t3 t4 t5 : TypeId} {v0 v1 v2 v3 v4 v5:Value} {d0 d1 d2 d3 d4 d5:DataW H} {p0 p1 p2 p3 p4 p5:List MemPlace} (h0:DataW.Trod enc P w base spare held t0 v0 d0 p0) (h1:DataW.Trod enc P w base spare held t1 v1 d1 p1) (h2:DataW.Trod enc P w base spare held t2 v2 d2 p2) (h3:DataW.Trod enc P w base spare held t3 v3 d3 p3) (h4:DataW.Trod enc P w base spare held t4 v4 d4 p4) (h5:DataW.Trod enc P w base spare held t5 v5 d5 p5):DataW.TrodAll enc P w base spare held [t0,t1,t2,t3,t4,t5] [v0,v1,v2,v3,v4,v5] [d0,d1,d2,d3,d4,d5] (p0++(p1++(p2++(p3++(p4++p5))))):=
  ⟨p0,_,h0,⟨p1,_,h1,trodAll_mk4 h2 h3 h4 h5,rfl⟩,rfl⟩
end
end Go.Proofs.YtodmckckapmmoaaGreatDoor
