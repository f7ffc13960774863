/- A logic for code of the model, proved sound, and what functions do that the laws on matrices come to; nothing is asked. Part 7. -/
import Derived.Test.YtmhnalikebkhjaaGreatDoorM6

set_option linter.unusedVariables false
set_option linter.unusedSimpArgs false
set_option linter.unnecessarySimpa false

namespace Go.Proofs.YtmhnalikebkhjaaGreatDoor
open Go.Proofs.YtmhnalikebkhjaaGreatDoor.X Go.Proofs.YtmhnalikebkhjaaGreatDoor.X.PH
set_option maxRecDepth 100000
def Q104n (J : Nat→PH→PH→PH→Prop) (Jx:PH→PH→Prop) (k0:Nat) (E:List Br × Int) (r:Value) (H' M':PH):Prop:=
  (r=.bool true∧E.2=0∧∃ Hp,J (k0+E.1.length) Hp H' M')∨(r=.bool false∧(Jx H' M'∨(E.2 ≠ 0∧∃ Hp,J (k0+E.1.length+1) Hp H' M')))
set_option maxHeartbeats 8000000 in
theorem d104n (c : Ct) (n m:Nat) (v0:Vec) (hok:RunOK c v0 n m) (l rb yb cb:Nat) (gs chf:Value) (bm:Nat) (all:Bool) (ch:Nat→List Int) (hch:∀ k,k < 8→(ch k).length≤2∧∀ o∈ch k,o=0∨o=1) (ys:List (Br × Int)) (H0:PH) (J:Nat→PH→PH→PH→Prop) (Jx:PH→PH→Prop)
    (up:∀ k Hp H' H'' M',J k Hp H' M'→Sub H' H''→J k Hp H'' M') (subp:∀ k Hp H' M',J k Hp H' M'→Sub Hp H') (inv:∀ k Hp H' M',J k Hp H' M'→∃ o,M' bm=some o∧OpsI H' o) (chg:∀ k Hp H' M' o,J k Hp H' M'→OpsI H' o→J k Hp H' (ins M' bm o))
    (hy:∀ k y,ys[k]?=some y→∀ x Hp H' M',Sub H0 H'→J k Hp H' M'→BrN y x Hp H'→Yl Tryz.prog l x H' M' fun v H'' M''=>(v=.bool true∧J (k+1) H'' H'' M'')∨(v=.bool false∧Jx H'' M'')) :
    ∀ (r i:Nat),i+r=c.gates.length→∀ (b:Br) (lp:List Int) (k0:Nat) (Hp H M:PH) (sv:Value),Sub H0 H→J k0 Hp H M→RunH H l rb yb cb c gs chf bm all ch→BrOK b n i→bitOK m b→PathOK lp b.outs→b.outs.length+foundN (c.gates.drop i)≤foundN c.gates→NumW Hp H sv b.state→(∀ j y,(ysOf (evG all ch (c.gates.drop i) b))[j]?=some y→ys[k0+j]?=some y) →
      Cl Tryz.prog 104 [.int .i64 i,.int .i64 b.bits,pv lp b.outs.length,sv,adr rb,adr yb,adr cb] H M fun r H' M'=>Q104n J Jx k0 (evG all ch (c.gates.drop i) b) r H' M':=by
  intro r
  induction r using Nat.strongRecOn with
  | ind r ih=>
  intro i hir b lp k0 Hp H M sv hs0 hJ hR hb hbit hp hfd hsv hys
  obtain⟨a0,a1,a2,a3,a4,a5,a6,a7,rfl⟩:=eight hp.len
  obtain⟨svb,svc,rfl,_⟩:=NumW.num hsv
  obtain⟨gb,gc,rfl⟩:=hR.gates.sl
  have hlen:=hok.len
  have hfew:=hok.few
  obtain⟨p1,p2⟩:=pow6 hok.n6
  rw[show pv [a0,a1,a2,a3,a4,a5,a6,a7] b.outs.length=.agg ⟨[.int .i64 a0,.int .i64 a1,.int .i64 a2,.int .i64 a3,.int .i64 a4,.int .i64 a5,.int .i64 a6,.int .i64 a7,.int .i64 b.outs.length]⟩ from rfl]
  refine Cl_of (pol:=polL) Γok Tryz.func104 (by kernel_rfl) rfl ?_
  conv=>whnf
  intro b9
  conv=>whnf
  refine W_loop (pol:=polL) Γok (Nat × PH × PH × Br × Value) (fun z=>i≤z.1∧z.1≤c.gates.length∧Sub H z.2.1∧J k0 Hp z.2.1 z.2.2.1∧BrOK z.2.2.2.1 n z.1∧z.2.2.2.1.bits=b.bits∧z.2.2.2.1.outs=b.outs∧NumW Hp z.2.1 z.2.2.2.2 z.2.2.2.1.state∧b.outs.length+foundN (c.gates.drop z.1)≤foundN c.gates∧evG all ch (c.gates.drop i) b=evG all ch (c.gates.drop z.1) z.2.2.2.1) (fun z=>c.gates.length - z.1) (fun z=>[(12,.v (.int .i64 z.1)),(3,.v z.2.2.2.2)]) (fun _=>[]) (fun z=>z.2.1) (fun z=>z.2.2.1) ⟨(i,H,M,b,.slice svb b.state.length svc),⟨Nat.le_refl _,by dsimp only;omega,Sub.refl _,hJ,hb,rfl,rfl,hsv,hfd,rfl⟩,rfl,rfl,?_⟩ ?_
  · conv=>whnf
    repeat (refine⟨rfl,?_⟩;conv=>whnf)
    exact trivial
  rintro ⟨j,Hj,Mj,bj,svv⟩ ⟨h1,h2,hsj,hJj,hbj,hbits,houts,hsvw,hfdj,hrun⟩
  dsimp only at h1 h2 hsj hJj hbj hbits houts hsvw hfdj hrun
  have hsvj:=NumW.num hsvw
  obtain⟨svb,svc,rfl,_⟩:=id hsvj
  have hRj:=hR.up hsj
  obtain⟨tr,fr,hrb⟩:=hRj.run
  obtain⟨tyy,fy,hyb⟩:=hRj.yl
  have hyl:=hy
  obtain⟨tc,fc,hcb⟩:=hRj.cl
  have rdgs:∀ O,Rd Hj O ⟨rb,2,none⟩ 1 [.slice gb c.gates.length gc]:=fun O=>⟨rfl,rfl,_,_,_,.inl hrb,rfl⟩
  have rdch:∀ O,Rd Hj O ⟨rb,4,none⟩ 1 [chf]:=fun O=>⟨rfl,rfl,_,_,_,.inl hrb,rfl⟩
  have rdall:∀ O,Rd Hj O ⟨rb,5,none⟩ 1 [.bool all]:=fun O=>⟨rfl,rfl,_,_,_,.inl hrb,rfl⟩
  have rdmap:∀ O,Rd Hj O ⟨rb,3,none⟩ 1 [.map (some bm)]:=fun O=>⟨rfl,rfl,_,_,_,.inl hrb,rfl⟩
  conv=>whnf
  refine⟨_,rdgs _,?_⟩
  conv=>whnf
  refine if_intro (fun hcj=>?_) (fun hcj=>?_)
  · have hij:j < c.gates.length:=by
      have:=of_decide_eq_true hcj
      omega
    have hg1:=hok.gates _ (List.getElem_mem hij)
    rw[evG_step hij] at hrun
    obtain⟨gbb,goff,w,wb,wc,rfl,hw,hrd,hwe⟩:=hRj.gates.rd hij
    subst hw
    conv=>whnf
    refine⟨_,rdgs _,?_⟩
    conv=>whnf
    refine dec_intro (by omega) ?_
    conv=>whnf
    refine⟨_,hrd Hj Mj (Sub.refl _),?_⟩
    conv=>whnf
    intro b13
    conv=>whnf
    refine if_intro (fun h13=>?_) (fun h13=>?_)
    · conv=>whnf
      refine if_intro (fun h14=>?_) (fun h14=>?_)
      · have hn13:¬ c.gates[j].kind=13:=neq_of h13
        have hn14:¬ c.gates[j].kind=14:=neq_of h14
        have hM:isM c.gates[j]=false:=by
          unfold isM
          rw[beq_eq_false_iff_ne.2 hn13,beq_eq_false_iff_ne.2 hn14]
          rfl
        rw[if_pos hM] at hrun
        have hfd:foundN (c.gates.drop j)=0+foundN (c.gates.drop (j+1)):=by
          rw[List.drop_eq_getElem_cons hij,foundN_cons,hM]<;>rfl
        obtain⟨c0,c1⟩:=hg1.cond
        have hb8:=hg1.b8
        conv=>whnf
        refine if_intro (fun hc=>?_) (fun hc=>?_)
        · have hc:c.gates[j].cond > 0:=of_decide_eq_true hc
          conv=>whnf
          rw[wrap_id (n:=c.gates[j].cond - 1) (by omega) (by omega)]
          refine dec_intro (by omega) ?_
          dsimp only[putK]
          refine setK_iff.2 ⟨by show 52 < 155;decide,?_⟩
          refine opsK_one fun K1 hK1=>?_
          conv=>whnf
          generalize hav:IntKind.i64.wrap (BitVec.ofInt IntKind.i64.bits (b.bits.fdiv (2 ^ min (c.gates[j].cond - 1).toNat IntKind.i64.bits)) &&& BitVec.ofInt IntKind.i64.bits 1).toNat=av
          have hav:andI (shrI b.bits (c.gates[j].cond - 1)) 1=av:=hav
          rw[← hK1]
          clear hK1 K1
          refine opsK_one fun K1 hK1=>?_
          conv=>whnf
          generalize hbo:(av == 0)=bo
          rw[← hK1]
          clear hK1 K1
          refine opsK_one fun K1 hK1=>?_
          conv=>whnf
          rw[← hK1]
          clear hK1 K1
          rw[← hav] at hbo
          cases bo
          rotate_left
          · have hz:=hbo
            have hon:¬ onB c.gates[j] bj.bits=true:=by
              rw[hbits]
              exact onB_no hc (by omega) (eq_of_beq hz)
            have enx:nextB bj c.gates[j] 0=(bj,0):=by unfold nextB;rw[if_neg hn13,if_neg hn14,if_neg hon]
            have hnx:=hbj.next (g:=c.gates[j]) (o:=0) (by rw[enx])
            rw[enx] at hnx hrun
            rw[if_neg (by simp)] at hrun
            conv=>whnf
            refine⟨(j+1,Hj,Mj,bj,.slice svb bj.state.length svc),⟨by dsimp only;omega,by dsimp only;omega,hsj,hJj,hnx,hbits,houts,hsvw,by dsimp only;omega,hrun⟩,by dsimp only;omega,?_⟩
            refine⟨rfl,rfl,?_⟩
            conv=>whnf
            repeat (refine⟨rfl,?_⟩;conv=>whnf)
            refine⟨by show En.v (.int .i64 (IntKind.i64.wrap (j+1)))=_;rw[wrap_id (by omega) (by omega)]<;>rfl,?_⟩
            conv=>whnf
            repeat (refine⟨rfl,?_⟩;conv=>whnf)
            exact trivial
          · have hon:onB c.gates[j] bj.bits=true:=by
              rw[hbits]
              exact onB_yes hc hbit (by omega) (by omega) (ne_of_beq_false hbo)
            have enx:nextB bj c.gates[j] 0=(⟨bj.outs,bj.bits,(doneG bj.state c.gates[j]).1⟩,(doneG bj.state c.gates[j]).2):=by unfold nextB;rw[if_neg hn13,if_neg hn14,if_pos hon]
            conv=>whnf
            refine⟨_,rdmap _,?_⟩
            conv=>whnf
            obtain⟨ob,heb,hib⟩:=inv _ _ _ _ hJj
            refine (d78n bj.state c.gates[j] n (hg1.plain hn13 hn14) hbj.len bm _ _ ob heb hib _ _ hsvj hwe).mono fun r Hd Md sd hr3=>?_
            obtain⟨⟨u,rfl,hu⟩,o',rfl,hi'⟩:=hr3
            obtain⟨ub,uc,rfl,_⟩:=NumW.num hu
            have hJd:=chg _ _ _ _ _ (up _ _ _ _ _ hJj sd) hi'
            conv=>whnf
            refine if_intro (fun he=>?_) (fun he=>?_)
            · have he:(doneG bj.state c.gates[j]).2 ≠ 0:=neq_of he
              have hE:evG all ch (c.gates.drop i) b=([],(doneG bj.state c.gates[j]).2):=by rw[hrun,enx,if_pos he]
              conv=>whnf
              refine⟨_,Rd_up (Rd.anyO (O:=emp) ⟨rfl,rfl,_,_,_,.inl hyb,rfl⟩) sd,?_⟩
              conv=>whnf
              refine (hy k0 (br0,(doneG bj.state c.gates[j]).2) (by have:=hys 0 (br0,(doneG bj.state c.gates[j]).2) (by rw[hE];unfold ysOf;rw[if_pos he]<;>rfl);exact this) _ _ _ _ (hs0.trans (hsj.trans sd)) hJd (BrN.zero _ _ _)).mono fun v H' M' hs hq=>?_
              rcases hq with⟨rfl,hJ'⟩ | ⟨rfl,hX⟩
              · conv=>whnf
                exact .inr ⟨rfl,.inr ⟨by rw[hE];exact he,by rw[hE];exact⟨_,hJ'⟩⟩⟩
              · conv=>whnf
                exact .inr ⟨rfl,.inl hX⟩
            have he:(doneG bj.state c.gates[j]).2=0:=eq_of_neq he
            rw[enx,if_neg (by rw[he];decide)] at hrun
            have hnx:=hbj.next (g:=c.gates[j]) (o:=0) (by rw[enx];exact he)
            rw[enx] at hnx
            conv=>whnf
            refine⟨(j+1,Hd,_,(⟨bj.outs,bj.bits,(doneG bj.state c.gates[j]).1⟩:Br),.slice ub (doneG bj.state c.gates[j]).1.length uc),⟨by dsimp only;omega,by dsimp only;omega,hsj.trans sd,hJd,hnx,hbits,houts,NumW.base hu (subp _ _ _ _ hJj),by dsimp only;omega,hrun⟩,by dsimp only;omega,?_⟩
            refine⟨rfl,rfl,?_⟩
            conv=>whnf
            repeat (refine⟨rfl,?_⟩;conv=>whnf)
            refine⟨by show En.v (.int .i64 (IntKind.i64.wrap (j+1)))=_;rw[wrap_id (by omega) (by omega)]<;>rfl,?_⟩
            conv=>whnf
            repeat (refine⟨rfl,?_⟩;conv=>whnf)
            exact trivial
        · have hc:¬ c.gates[j].cond > 0:=of_decide_eq_false hc
          have hon:onB c.gates[j] bj.bits=true:=onB_zero (by omega)
          have enx:nextB bj c.gates[j] 0=(⟨bj.outs,bj.bits,(doneG bj.state c.gates[j]).1⟩,(doneG bj.state c.gates[j]).2):=by unfold nextB;rw[if_neg hn13,if_neg hn14,if_pos hon]
          conv=>whnf
          refine⟨_,rdmap _,?_⟩
          conv=>whnf
          obtain⟨ob,heb,hib⟩:=inv _ _ _ _ hJj
          refine (d78n bj.state c.gates[j] n (hg1.plain hn13 hn14) hbj.len bm _ _ ob heb hib _ _ hsvj hwe).mono fun r Hd Md sd hr3=>?_
          obtain⟨⟨u,rfl,hu⟩,o',rfl,hi'⟩:=hr3
          obtain⟨ub,uc,rfl,_⟩:=NumW.num hu
          have hJd:=chg _ _ _ _ _ (up _ _ _ _ _ hJj sd) hi'
          conv=>whnf
          refine if_intro (fun he=>?_) (fun he=>?_)
          · have he:(doneG bj.state c.gates[j]).2 ≠ 0:=neq_of he
            have hE:evG all ch (c.gates.drop i) b=([],(doneG bj.state c.gates[j]).2):=by rw[hrun,enx,if_pos he]
            conv=>whnf
            refine⟨_,Rd_up (Rd.anyO (O:=emp) ⟨rfl,rfl,_,_,_,.inl hyb,rfl⟩) sd,?_⟩
            conv=>whnf
            refine (hy k0 (br0,(doneG bj.state c.gates[j]).2) (by have:=hys 0 (br0,(doneG bj.state c.gates[j]).2) (by rw[hE];unfold ysOf;rw[if_pos he]<;>rfl);exact this) _ _ _ _ (hs0.trans (hsj.trans sd)) hJd (BrN.zero _ _ _)).mono fun v H' M' hs hq=>?_
            rcases hq with⟨rfl,hJ'⟩ | ⟨rfl,hX⟩
            · conv=>whnf
              exact .inr ⟨rfl,.inr ⟨by rw[hE];exact he,by rw[hE];exact⟨_,hJ'⟩⟩⟩
            · conv=>whnf
              exact .inr ⟨rfl,.inl hX⟩
          have he:(doneG bj.state c.gates[j]).2=0:=eq_of_neq he
          rw[enx,if_neg (by rw[he];decide)] at hrun
          have hnx:=hbj.next (g:=c.gates[j]) (o:=0) (by rw[enx];exact he)
          rw[enx] at hnx
          conv=>whnf
          refine⟨(j+1,Hd,_,(⟨bj.outs,bj.bits,(doneG bj.state c.gates[j]).1⟩:Br),.slice ub (doneG bj.state c.gates[j]).1.length uc),⟨by dsimp only;omega,by dsimp only;omega,hsj.trans sd,hJd,hnx,hbits,houts,NumW.base hu (subp _ _ _ _ hJj),by dsimp only;omega,hrun⟩,by dsimp only;omega,?_⟩
          refine⟨rfl,rfl,?_⟩
          conv=>whnf
          repeat (refine⟨rfl,?_⟩;conv=>whnf)
          refine⟨by show En.v (.int .i64 (IntKind.i64.wrap (j+1)))=_;rw[wrap_id (by omega) (by omega)]<;>rfl,?_⟩
          conv=>whnf
          repeat (refine⟨rfl,?_⟩;conv=>whnf)
          exact trivial
      · have hk14:c.gates[j].kind=14:=eq_of_neq h14
        have hM:isM c.gates[j]=true:=by
          unfold isM
          rw[hk14]
          rfl
        have hone:=hg1.one (by unfold isM at hM;simpa using hM)
        obtain⟨w1,wlt,w0,hxg⟩:=hone
        obtain⟨wbb,woff,rfl,hwr⟩:=(IntsC.h hwe).rd (i:=0) (by omega)
        have hfd:foundN (c.gates.drop j)=1+foundN (c.gates.drop (j+1)):=by
          rw[List.drop_eq_getElem_cons hij,foundN_cons,hM]<;>rfl
        have hos:b.outs.length < foundN c.gates:=by omega
        have hbit':bitOK m bj:=by unfold bitOK;rw[hbits];exact hbit
        rw[if_neg (by rw[hM];simp)] at hrun
        conv=>whnf
        refine⟨_,rdch _,?_⟩
        conv=>whnf
        refine (hRj.cho _ b.outs hp hos).use fun r Ha sa hr=>?_
        obtain⟨csb,csc,rfl,_⟩:=id hr
        obtain⟨hcl,hc01⟩:=hch b.outs.length (by omega)
        rw[houts] at hrun
        generalize hcs:ch b.outs.length=cs at hrun hcl hc01 hr ⊢
        have hrun0:evG all ch (c.gates.drop i) b=(([]:List Br)++(evC (subG all (evG all ch (c.gates.drop (j+1))) bj c.gates[j]) (cs.drop 0)).1,(evC (subG all (evG all ch (c.gates.drop (j+1))) bj c.gates[j]) (cs.drop 0)).2):=by rw[List.drop_zero,List.nil_append,hrun]
        conv=>whnf
        refine W_loop (pol:=polL) Γok (Nat × PH × PH × List Br) (fun z=>z.1≤cs.length∧Sub Ha z.2.1∧(∃ Hq,J (k0+z.2.2.2.length) Hq z.2.1 z.2.2.1)∧evG all ch (c.gates.drop i) b=(z.2.2.2++(evC (subG all (evG all ch (c.gates.drop (j+1))) bj c.gates[j]) (cs.drop z.1)).1,(evC (subG all (evG all ch (c.gates.drop (j+1))) bj c.gates[j]) (cs.drop z.1)).2)) (fun z=>cs.length - z.1) (fun z=>[(78,.v (.int .i64 z.1))]) (fun _=>[]) (fun z=>z.2.1) (fun z=>z.2.2.1) ⟨(0,Ha,Mj,[]),⟨Nat.zero_le _,Sub.refl _,⟨Hp,up _ _ _ _ _ hJj sa⟩,hrun0⟩,rfl,rfl,?_⟩ ?_
        · conv=>whnf
          repeat (refine⟨rfl,?_⟩;conv=>whnf)
          exact trivial
        rintro ⟨q,Hq,Mq,A⟩ ⟨h1q,hsq,⟨Hpq,hJq⟩,hrq⟩
        dsimp only at h1q hsq hJq hrq
        conv=>whnf
        refine if_intro (fun hcq=>?_) (fun hcq=>?_)
        · have hiq:q < cs.length:=by
            have:=of_decide_eq_true hcq
            omega
          obtain⟨ob,ooff,rfl,hro⟩:=(IntsH.up hr hsq).rd hiq
          obtain⟨o,ho⟩:∃ o,o=cs[q]:=⟨_,rfl⟩
          rw[← ho] at hro
          have ho01:o=0∨o=1:=hc01 o (by rw[ho];exact List.getElem_mem hiq)
          conv=>whnf
          refine dec_intro (by omega) ?_
          conv=>whnf
          refine⟨_,hro _,?_⟩
          conv=>whnf
          have hdq:cs.drop q=o::cs.drop (q+1):=by rw[ho];exact List.drop_eq_getElem_cons hiq
          have stepq:∀ bs,(subG all (evG all ch (c.gates.drop (j+1))) bj c.gates[j]) o=(bs,0)→evG all ch (c.gates.drop i) b=((A++bs)++(evC (subG all (evG all ch (c.gates.drop (j+1))) bj c.gates[j]) (cs.drop (q+1))).1,(evC (subG all (evG all ch (c.gates.drop (j+1))) bj c.gates[j]) (cs.drop (q+1))).2):=fun bs h=>by
            rw[hrq,hdq,evC_cons,h,if_neg (by simp),List.append_assoc]
          have stopq:((subG all (evG all ch (c.gates.drop (j+1))) bj c.gates[j]) o).2 ≠ 0→evG all ch (c.gates.drop i) b=(A++((subG all (evG all ch (c.gates.drop (j+1))) bj c.gates[j]) o).1,((subG all (evG all ch (c.gates.drop (j+1))) bj c.gates[j]) o).2):=fun h=>by
            rw[hrq,hdq,evC_cons,if_pos h]
          have subq:∀ j' y,(ysOf ((subG all (evG all ch (c.gates.drop (j+1))) bj c.gates[j]) o))[j']?=some y→ys[k0+A.length+j']?=some y:=fun j' y h=>by
            obtain⟨T,hT⟩:=ysOf_sub (subG all (evG all ch (c.gates.drop (j+1))) bj c.gates[j]) o (cs.drop (q+1))
            rw[Nat.add_assoc]
            refine hys _ y ?_
            rw[hrq,ysOf_pre,hdq,hT]
            have:=get_pre (A:=A.map fun b=>(b,(0:Int))) (get_left (B:=T) h)
            rwa [List.length_map] at this
          have hK:b.outs.length < 8:=by omega
          intro b18
          conv=>whnf
          refine dec_intro (by omega) ?_
          conv=>whnf
          refine overK8 (by omega) fun x0 x1 x2 x3 x4 x5 x6 x7 hx8=>?_
          have hx8:[x0,x1,x2,x3,x4,x5,x6,x7]=[a0,a1,a2,a3,a4,a5,a6,a7].set b.outs.length o:=by
            rw[← hx8]
            congr 1
            omega
          conv=>whnf
          rw[wrap_id (n:=(b.outs.length:Int)+1) (by omega) (by omega)]
          refine dec_intro (by omega) ?_
          conv=>whnf
          refine⟨_,Rd_up (hwr emp) (sa.trans hsq),?_⟩
          conv=>whnf
          rw[w0 (by omega)]
          refine (d79n bj.state (wire0 c.gates[j]) o (by rw[hbj.len];exact p1) (by have:=hok.n6;omega) _ _ (NumH.up hsvj (sa.trans hsq))).use fun r Hb sb hr2=>?_
          obtain⟨_,hr2⟩:=hr2
          obtain⟨kb,kc,rfl,_⟩:=NumW.num hr2
          conv=>whnf
          refine⟨_,Rd_up (rdall emp) (sa.trans (hsq.trans sb)),?_⟩
          conv=>whnf
          refine if_intro (fun hall=>?_) (fun hall=>?_)
          · conv=>whnf
            refine (d67 (keptV bj.state (wire0 c.gates[j]) o) (by rw[kept_len,hbj.len];omega) (kept_good hbj.chk _ _) _ _ (NumW.num hr2)).val fun Hc sc=>?_
            conv=>whnf
            refine if_intro (fun hdead=>?_) (fun hdead=>?_)
            · conv=>whnf
              have hsub0:(subG all (evG all ch (c.gates.drop (j+1))) bj c.gates[j]) o=([],0):=if_pos ⟨not_true hall,hdead⟩
              refine⟨(q+1,Hc,Mq,A),⟨hiq,hsq.trans (sb.trans sc),⟨_,up _ _ _ _ _ hJq (sb.trans sc)⟩,by have:=stepq [] hsub0;rwa [List.append_nil] at this⟩,by dsimp only;omega,?_⟩
              refine⟨rfl,rfl,?_⟩
              conv=>whnf
              repeat (refine⟨rfl,?_⟩;conv=>whnf)
              refine⟨by show En.v (.int .i64 (IntKind.i64.wrap (q+1)))=_;rw[wrap_id (by omega) (by omega)]<;>rfl,?_⟩
              conv=>whnf
              repeat (refine⟨rfl,?_⟩;conv=>whnf)
              exact trivial
            · have hsubq:(subG all (evG all ch (c.gates.drop (j+1))) bj c.gates[j]) o=evG all ch (c.gates.drop (j+1)) (nextB bj c.gates[j] o).1:=if_neg fun h=>by rw[hdead] at h;exact absurd h.2 (by decide)
              have hn13:¬ c.gates[j].kind=13:=by rw[hk14];decide
              conv=>whnf
              refine if_intro (fun hk13=>?_) (fun hk13=>?_)
              · exact absurd (eq_of_beq hk13) hn13
              conv=>whnf
              refine if_intro (fun ho1=>?_) (fun ho1=>?_)
              · have ho1:o=1:=eq_of_beq ho1
                have enx:nextB bj c.gates[j] o=(⟨bj.outs++[o],bj.bits,(doneG (keptV bj.state (wire0 c.gates[j]) o) (xGate c.gates[j])).1⟩,(doneG (keptV bj.state (wire0 c.gates[j]) o) (xGate c.gates[j])).2):=by unfold nextB;rw[if_neg hn13,if_pos hk14,if_pos ho1]
                conv=>whnf
                refine⟨_,Rd_up (rdmap emp) (sa.trans (hsq.trans (sb.trans sc))),?_⟩
                conv=>whnf
                obtain⟨ob,heb,hib⟩:=inv _ _ _ _ (up _ _ _ _ _ hJq (sb.trans sc))
                refine (d78n (keptV bj.state (wire0 c.gates[j]) o) (xGate c.gates[j]) n hxg (by rw[kept_len];exact hbj.len) bm _ _ ob heb hib _ _ (NumW.num (NumW.up hr2 sc)) (hwe.up (sa.trans (hsq.trans (sb.trans sc))))).mono fun r Hd Md sd hr3=>?_
                obtain⟨⟨u,rfl,hu⟩,o',rfl,hi'⟩:=hr3
                obtain⟨ub,uc,rfl,_⟩:=NumW.num hu
                conv=>whnf
                refine⟨_,Rd_up (Rd.anyO (O:=emp) ⟨rfl,rfl,_,_,_,.inl hcb,rfl⟩) (sa.trans (hsq.trans ((sb.trans sc).trans sd))),?_⟩
                conv=>whnf
                rw[wrap_id (n:=(j:Int)+1) (by omega) (by omega)]
                have eo:(nextB bj c.gates[j] o).1.outs=b.outs++[o]:=by rw[next_outs hM,houts]
                have hcall:=ih (c.gates.length - (j+1)) (by omega) (j+1) (by omega) (nextB bj c.gates[j] o).1 [x0,x1,x2,x3,x4,x5,x6,x7] (k0+A.length) Hpq _ _ _ (hs0.trans (hsj.trans (sa.trans (hsq.trans ((sb.trans sc).trans sd))))) (chg _ _ _ _ _ (up _ _ _ _ _ hJq ((sb.trans sc).trans sd)) hi') (hRj.up (sa.trans (hsq.trans ((sb.trans sc).trans sd)))) (hbj.next (next_err hg1 hM hbj)) (next_bit hg1 hbit' ho01) (by rw[eo,hx8];exact hp.next (by omega) o) (by rw[eo,List.length_append];show b.outs.length+1+_≤_;omega) (by rw[enx];exact NumW.base hu ((subp _ _ _ _ hJq).trans (sb.trans sc))) (by rw[← hsubq];exact subq)
                refine (Cl.args (by rw[eo,List.length_append,List.length_singleton,← hbits,enx]<;>rfl) hcall).mono fun r He Me se hre=>?_
                rw[← hsubq] at hre
                rcases hre with⟨rfl,he0,hJe⟩ | ⟨rfl,hre⟩
                · conv=>whnf
                  refine⟨(q+1,He,Me,A++((subG all (evG all ch (c.gates.drop (j+1))) bj c.gates[j]) o).1),⟨hiq,hsq.trans (((sb.trans sc).trans sd).trans se),by rw[List.length_append,← Nat.add_assoc];exact hJe,stepq _ (Prod.ext rfl he0)⟩,by dsimp only;omega,?_⟩
                  refine⟨rfl,rfl,?_⟩
                  conv=>whnf
                  repeat (refine⟨rfl,?_⟩;conv=>whnf)
                  refine⟨by show En.v (.int .i64 (IntKind.i64.wrap (q+1)))=_;rw[wrap_id (by omega) (by omega)]<;>rfl,?_⟩
                  conv=>whnf
                  repeat (refine⟨rfl,?_⟩;conv=>whnf)
                  exact trivial
                · conv=>whnf
                  refine .inr ⟨rfl,?_⟩
                  rcases hre with hx | ⟨he,hJe⟩
                  · exact .inl hx
                  · rw[stopq he]
                    exact .inr ⟨he,by rw[List.length_append,← Nat.add_assoc];exact hJe⟩
              · have ho1:¬ o=1:=fun h=>by rw[h] at ho1;exact absurd ho1 (by decide)
                have enx:nextB bj c.gates[j] o=(⟨bj.outs++[o],bj.bits,keptV bj.state (wire0 c.gates[j]) o⟩,0):=by unfold nextB;rw[if_neg hn13,if_pos hk14,if_neg ho1]
                conv=>whnf
                refine⟨_,Rd_up (Rd.anyO (O:=emp) ⟨rfl,rfl,_,_,_,.inl hcb,rfl⟩) (sa.trans (hsq.trans (sb.trans sc))),?_⟩
                conv=>whnf
                rw[wrap_id (n:=(j:Int)+1) (by omega) (by omega)]
                have eo:(nextB bj c.gates[j] o).1.outs=b.outs++[o]:=by rw[next_outs hM,houts]
                have hcall:=ih (c.gates.length - (j+1)) (by omega) (j+1) (by omega) (nextB bj c.gates[j] o).1 [x0,x1,x2,x3,x4,x5,x6,x7] (k0+A.length) Hpq _ _ _ (hs0.trans (hsj.trans (sa.trans (hsq.trans (sb.trans sc))))) (up _ _ _ _ _ hJq (sb.trans sc)) (hRj.up (sa.trans (hsq.trans (sb.trans sc)))) (hbj.next (next_err hg1 hM hbj)) (next_bit hg1 hbit' ho01) (by rw[eo,hx8];exact hp.next (by omega) o) (by rw[eo,List.length_append];show b.outs.length+1+_≤_;omega) (by rw[enx];exact NumW.base (NumW.up hr2 sc) (subp _ _ _ _ hJq)) (by rw[← hsubq];exact subq)
                refine (Cl.args (by rw[eo,List.length_append,List.length_singleton,← hbits,enx]<;>rfl) hcall).mono fun r He Me se hre=>?_
                rw[← hsubq] at hre
                rcases hre with⟨rfl,he0,hJe⟩ | ⟨rfl,hre⟩
                · conv=>whnf
                  refine⟨(q+1,He,Me,A++((subG all (evG all ch (c.gates.drop (j+1))) bj c.gates[j]) o).1),⟨hiq,hsq.trans ((sb.trans sc).trans se),by rw[List.length_append,← Nat.add_assoc];exact hJe,stepq _ (Prod.ext rfl he0)⟩,by dsimp only;omega,?_⟩
                  refine⟨rfl,rfl,?_⟩
                  conv=>whnf
                  repeat (refine⟨rfl,?_⟩;conv=>whnf)
                  refine⟨by show En.v (.int .i64 (IntKind.i64.wrap (q+1)))=_;rw[wrap_id (by omega) (by omega)]<;>rfl,?_⟩
                  conv=>whnf
                  repeat (refine⟨rfl,?_⟩;conv=>whnf)
                  exact trivial
                · conv=>whnf
                  refine .inr ⟨rfl,?_⟩
                  rcases hre with hx | ⟨he,hJe⟩
                  · exact .inl hx
                  · rw[stopq he]
                    exact .inr ⟨he,by rw[List.length_append,← Nat.add_assoc];exact hJe⟩
          · have hsubq:(subG all (evG all ch (c.gates.drop (j+1))) bj c.gates[j]) o=evG all ch (c.gates.drop (j+1)) (nextB bj c.gates[j] o).1:=if_neg fun h=>by rw[h.1] at hall;exact absurd hall (by decide)
            have hn13:¬ c.gates[j].kind=13:=by rw[hk14];decide
            conv=>whnf
            refine if_intro (fun hk13=>?_) (fun hk13=>?_)
            · exact absurd (eq_of_beq hk13) hn13
            conv=>whnf
            refine if_intro (fun ho1=>?_) (fun ho1=>?_)
            · have ho1:o=1:=eq_of_beq ho1
              have enx:nextB bj c.gates[j] o=(⟨bj.outs++[o],bj.bits,(doneG (keptV bj.state (wire0 c.gates[j]) o) (xGate c.gates[j])).1⟩,(doneG (keptV bj.state (wire0 c.gates[j]) o) (xGate c.gates[j])).2):=by unfold nextB;rw[if_neg hn13,if_pos hk14,if_pos ho1]
              conv=>whnf
              refine⟨_,Rd_up (rdmap emp) (sa.trans (hsq.trans sb)),?_⟩
              conv=>whnf
              obtain⟨ob,heb,hib⟩:=inv _ _ _ _ (up _ _ _ _ _ hJq sb)
              refine (d78n (keptV bj.state (wire0 c.gates[j]) o) (xGate c.gates[j]) n hxg (by rw[kept_len];exact hbj.len) bm _ _ ob heb hib _ _ (NumW.num hr2) (hwe.up (sa.trans (hsq.trans sb)))).mono fun r Hd Md sd hr3=>?_
              obtain⟨⟨u,rfl,hu⟩,o',rfl,hi'⟩:=hr3
              obtain⟨ub,uc,rfl,_⟩:=NumW.num hu
              conv=>whnf
              refine⟨_,Rd_up (Rd.anyO (O:=emp) ⟨rfl,rfl,_,_,_,.inl hcb,rfl⟩) (sa.trans (hsq.trans (sb.trans sd))),?_⟩
              conv=>whnf
              rw[wrap_id (n:=(j:Int)+1) (by omega) (by omega)]
              have eo:(nextB bj c.gates[j] o).1.outs=b.outs++[o]:=by rw[next_outs hM,houts]
              have hcall:=ih (c.gates.length - (j+1)) (by omega) (j+1) (by omega) (nextB bj c.gates[j] o).1 [x0,x1,x2,x3,x4,x5,x6,x7] (k0+A.length) Hpq _ _ _ (hs0.trans (hsj.trans (sa.trans (hsq.trans (sb.trans sd))))) (chg _ _ _ _ _ (up _ _ _ _ _ hJq (sb.trans sd)) hi') (hRj.up (sa.trans (hsq.trans (sb.trans sd)))) (hbj.next (next_err hg1 hM hbj)) (next_bit hg1 hbit' ho01) (by rw[eo,hx8];exact hp.next (by omega) o) (by rw[eo,List.length_append];show b.outs.length+1+_≤_;omega) (by rw[enx];exact NumW.base hu ((subp _ _ _ _ hJq).trans sb)) (by rw[← hsubq];exact subq)
              refine (Cl.args (by rw[eo,List.length_append,List.length_singleton,← hbits,enx]<;>rfl) hcall).mono fun r He Me se hre=>?_
              rw[← hsubq] at hre
              rcases hre with⟨rfl,he0,hJe⟩ | ⟨rfl,hre⟩
              · conv=>whnf
                refine⟨(q+1,He,Me,A++((subG all (evG all ch (c.gates.drop (j+1))) bj c.gates[j]) o).1),⟨hiq,hsq.trans ((sb.trans sd).trans se),by rw[List.length_append,← Nat.add_assoc];exact hJe,stepq _ (Prod.ext rfl he0)⟩,by dsimp only;omega,?_⟩
                refine⟨rfl,rfl,?_⟩
                conv=>whnf
                repeat (refine⟨rfl,?_⟩;conv=>whnf)
                refine⟨by show En.v (.int .i64 (IntKind.i64.wrap (q+1)))=_;rw[wrap_id (by omega) (by omega)]<;>rfl,?_⟩
                conv=>whnf
                repeat (refine⟨rfl,?_⟩;conv=>whnf)
                exact trivial
              · conv=>whnf
                refine .inr ⟨rfl,?_⟩
                rcases hre with hx | ⟨he,hJe⟩
                · exact .inl hx
                · rw[stopq he]
                  exact .inr ⟨he,by rw[List.length_append,← Nat.add_assoc];exact hJe⟩
            · have ho1:¬ o=1:=fun h=>by rw[h] at ho1;exact absurd ho1 (by decide)
              have enx:nextB bj c.gates[j] o=(⟨bj.outs++[o],bj.bits,keptV bj.state (wire0 c.gates[j]) o⟩,0):=by unfold nextB;rw[if_neg hn13,if_pos hk14,if_neg ho1]
              conv=>whnf
              refine⟨_,Rd_up (Rd.anyO (O:=emp) ⟨rfl,rfl,_,_,_,.inl hcb,rfl⟩) (sa.trans (hsq.trans sb)),?_⟩
              conv=>whnf
              rw[wrap_id (n:=(j:Int)+1) (by omega) (by omega)]
              have eo:(nextB bj c.gates[j] o).1.outs=b.outs++[o]:=by rw[next_outs hM,houts]
              have hcall:=ih (c.gates.length - (j+1)) (by omega) (j+1) (by omega) (nextB bj c.gates[j] o).1 [x0,x1,x2,x3,x4,x5,x6,x7] (k0+A.length) Hpq _ _ _ (hs0.trans (hsj.trans (sa.trans (hsq.trans sb)))) (up _ _ _ _ _ hJq sb) (hRj.up (sa.trans (hsq.trans sb))) (hbj.next (next_err hg1 hM hbj)) (next_bit hg1 hbit' ho01) (by rw[eo,hx8];exact hp.next (by omega) o) (by rw[eo,List.length_append];show b.outs.length+1+_≤_;omega) (by rw[enx];exact NumW.base hr2 (subp _ _ _ _ hJq)) (by rw[← hsubq];exact subq)
              refine (Cl.args (by rw[eo,List.length_append,List.length_singleton,← hbits,enx]<;>rfl) hcall).mono fun r He Me se hre=>?_
              rw[← hsubq] at hre
              rcases hre with⟨rfl,he0,hJe⟩ | ⟨rfl,hre⟩
              · conv=>whnf
                refine⟨(q+1,He,Me,A++((subG all (evG all ch (c.gates.drop (j+1))) bj c.gates[j]) o).1),⟨hiq,hsq.trans (sb.trans se),by rw[List.length_append,← Nat.add_assoc];exact hJe,stepq _ (Prod.ext rfl he0)⟩,by dsimp only;omega,?_⟩
                refine⟨rfl,rfl,?_⟩
                conv=>whnf
                repeat (refine⟨rfl,?_⟩;conv=>whnf)
                refine⟨by show En.v (.int .i64 (IntKind.i64.wrap (q+1)))=_;rw[wrap_id (by omega) (by omega)]<;>rfl,?_⟩
                conv=>whnf
                repeat (refine⟨rfl,?_⟩;conv=>whnf)
                exact trivial
              · conv=>whnf
                refine .inr ⟨rfl,?_⟩
                rcases hre with hx | ⟨he,hJe⟩
                · exact .inl hx
                · rw[stopq he]
                  exact .inr ⟨he,by rw[List.length_append,← Nat.add_assoc];exact hJe⟩
        have hqq:q=cs.length:=by
          have:=of_decide_eq_false hcq
          omega
        subst hqq
        conv=>whnf
        have hE:evG all ch (c.gates.drop i) b=(A,0):=by rw[hrq,List.drop_length];show (A++[],0)=_;rw[List.append_nil]
        refine .inl ⟨rfl,?_,?_⟩
        · rw[hE]
        · rw[hE];exact⟨_,hJq⟩
    · have hk13:c.gates[j].kind=13:=eq_of_neq h13
      have hM:isM c.gates[j]=true:=by
        unfold isM
        rw[hk13]
        rfl
      have hone:=hg1.one (by unfold isM at hM;simpa using hM)
      obtain⟨w1,wlt,w0,hxg⟩:=hone
      obtain⟨wbb,woff,rfl,hwr⟩:=(IntsC.h hwe).rd (i:=0) (by omega)
      have hfd:foundN (c.gates.drop j)=1+foundN (c.gates.drop (j+1)):=by
        rw[List.drop_eq_getElem_cons hij,foundN_cons,hM]<;>rfl
      have hos:b.outs.length < foundN c.gates:=by omega
      have hbit':bitOK m bj:=by unfold bitOK;rw[hbits];exact hbit
      rw[if_neg (by rw[hM];simp)] at hrun
      conv=>whnf
      refine⟨_,rdch _,?_⟩
      conv=>whnf
      refine (hRj.cho _ b.outs hp hos).use fun r Ha sa hr=>?_
      obtain⟨csb,csc,rfl,_⟩:=id hr
      obtain⟨hcl,hc01⟩:=hch b.outs.length (by omega)
      rw[houts] at hrun
      generalize hcs:ch b.outs.length=cs at hrun hcl hc01 hr ⊢
      have hrun0:evG all ch (c.gates.drop i) b=(([]:List Br)++(evC (subG all (evG all ch (c.gates.drop (j+1))) bj c.gates[j]) (cs.drop 0)).1,(evC (subG all (evG all ch (c.gates.drop (j+1))) bj c.gates[j]) (cs.drop 0)).2):=by rw[List.drop_zero,List.nil_append,hrun]
      conv=>whnf
      refine W_loop (pol:=polL) Γok (Nat × PH × PH × List Br) (fun z=>z.1≤cs.length∧Sub Ha z.2.1∧(∃ Hq,J (k0+z.2.2.2.length) Hq z.2.1 z.2.2.1)∧evG all ch (c.gates.drop i) b=(z.2.2.2++(evC (subG all (evG all ch (c.gates.drop (j+1))) bj c.gates[j]) (cs.drop z.1)).1,(evC (subG all (evG all ch (c.gates.drop (j+1))) bj c.gates[j]) (cs.drop z.1)).2)) (fun z=>cs.length - z.1) (fun z=>[(78,.v (.int .i64 z.1))]) (fun _=>[]) (fun z=>z.2.1) (fun z=>z.2.2.1) ⟨(0,Ha,Mj,[]),⟨Nat.zero_le _,Sub.refl _,⟨Hp,up _ _ _ _ _ hJj sa⟩,hrun0⟩,rfl,rfl,?_⟩ ?_
      · conv=>whnf
        repeat (refine⟨rfl,?_⟩;conv=>whnf)
        exact trivial
      rintro ⟨q,Hq,Mq,A⟩ ⟨h1q,hsq,⟨Hpq,hJq⟩,hrq⟩
      dsimp only at h1q hsq hJq hrq
      conv=>whnf
      refine if_intro (fun hcq=>?_) (fun hcq=>?_)
      · have hiq:q < cs.length:=by
          have:=of_decide_eq_true hcq
          omega
        obtain⟨ob,ooff,rfl,hro⟩:=(IntsH.up hr hsq).rd hiq
        obtain⟨o,ho⟩:∃ o,o=cs[q]:=⟨_,rfl⟩
        rw[← ho] at hro
        have ho01:o=0∨o=1:=hc01 o (by rw[ho];exact List.getElem_mem hiq)
        conv=>whnf
        refine dec_intro (by omega) ?_
        conv=>whnf
        refine⟨_,hro _,?_⟩
        conv=>whnf
        have hdq:cs.drop q=o::cs.drop (q+1):=by rw[ho];exact List.drop_eq_getElem_cons hiq
        have stepq:∀ bs,(subG all (evG all ch (c.gates.drop (j+1))) bj c.gates[j]) o=(bs,0)→evG all ch (c.gates.drop i) b=((A++bs)++(evC (subG all (evG all ch (c.gates.drop (j+1))) bj c.gates[j]) (cs.drop (q+1))).1,(evC (subG all (evG all ch (c.gates.drop (j+1))) bj c.gates[j]) (cs.drop (q+1))).2):=fun bs h=>by
          rw[hrq,hdq,evC_cons,h,if_neg (by simp),List.append_assoc]
        have stopq:((subG all (evG all ch (c.gates.drop (j+1))) bj c.gates[j]) o).2 ≠ 0→evG all ch (c.gates.drop i) b=(A++((subG all (evG all ch (c.gates.drop (j+1))) bj c.gates[j]) o).1,((subG all (evG all ch (c.gates.drop (j+1))) bj c.gates[j]) o).2):=fun h=>by
          rw[hrq,hdq,evC_cons,if_pos h]
        have subq:∀ j' y,(ysOf ((subG all (evG all ch (c.gates.drop (j+1))) bj c.gates[j]) o))[j']?=some y→ys[k0+A.length+j']?=some y:=fun j' y h=>by
          obtain⟨T,hT⟩:=ysOf_sub (subG all (evG all ch (c.gates.drop (j+1))) bj c.gates[j]) o (cs.drop (q+1))
          rw[Nat.add_assoc]
          refine hys _ y ?_
          rw[hrq,ysOf_pre,hdq,hT]
          have:=get_pre (A:=A.map fun b=>(b,(0:Int))) (get_left (B:=T) h)
          rwa [List.length_map] at this
        have hK:b.outs.length < 8:=by omega
        intro b18
        conv=>whnf
        refine dec_intro (by omega) ?_
        conv=>whnf
        refine overK8 (by omega) fun x0 x1 x2 x3 x4 x5 x6 x7 hx8=>?_
        have hx8:[x0,x1,x2,x3,x4,x5,x6,x7]=[a0,a1,a2,a3,a4,a5,a6,a7].set b.outs.length o:=by
          rw[← hx8]
          congr 1
          omega
        conv=>whnf
        rw[wrap_id (n:=(b.outs.length:Int)+1) (by omega) (by omega)]
        refine dec_intro (by omega) ?_
        conv=>whnf
        refine⟨_,Rd_up (hwr emp) (sa.trans hsq),?_⟩
        conv=>whnf
        rw[w0 (by omega)]
        refine (d79n bj.state (wire0 c.gates[j]) o (by rw[hbj.len];exact p1) (by have:=hok.n6;omega) _ _ (NumH.up hsvj (sa.trans hsq))).use fun r Hb sb hr2=>?_
        obtain⟨_,hr2⟩:=hr2
        obtain⟨kb,kc,rfl,_⟩:=NumW.num hr2
        conv=>whnf
        refine⟨_,Rd_up (rdall emp) (sa.trans (hsq.trans sb)),?_⟩
        conv=>whnf
        refine if_intro (fun hall=>?_) (fun hall=>?_)
        · conv=>whnf
          refine (d67 (keptV bj.state (wire0 c.gates[j]) o) (by rw[kept_len,hbj.len];omega) (kept_good hbj.chk _ _) _ _ (NumW.num hr2)).val fun Hc sc=>?_
          conv=>whnf
          refine if_intro (fun hdead=>?_) (fun hdead=>?_)
          · conv=>whnf
            have hsub0:(subG all (evG all ch (c.gates.drop (j+1))) bj c.gates[j]) o=([],0):=if_pos ⟨not_true hall,hdead⟩
            refine⟨(q+1,Hc,Mq,A),⟨hiq,hsq.trans (sb.trans sc),⟨_,up _ _ _ _ _ hJq (sb.trans sc)⟩,by have:=stepq [] hsub0;rwa [List.append_nil] at this⟩,by dsimp only;omega,?_⟩
            refine⟨rfl,rfl,?_⟩
            conv=>whnf
            repeat (refine⟨rfl,?_⟩;conv=>whnf)
            refine⟨by show En.v (.int .i64 (IntKind.i64.wrap (q+1)))=_;rw[wrap_id (by omega) (by omega)]<;>rfl,?_⟩
            conv=>whnf
            repeat (refine⟨rfl,?_⟩;conv=>whnf)
            exact trivial
          · have hsubq:(subG all (evG all ch (c.gates.drop (j+1))) bj c.gates[j]) o=evG all ch (c.gates.drop (j+1)) (nextB bj c.gates[j] o).1:=if_neg fun h=>by rw[hdead] at h;exact absurd h.2 (by decide)
            conv=>whnf
            refine if_intro (fun hk13'=>?_) (fun hk13'=>?_)
            rotate_left
            · rw[hk13] at hk13'
              exact absurd hk13' (by decide)
            obtain⟨bt0,bt1⟩:=hg1.bit hk13
            have hm8:=hg1.b8
            have enx:nextB bj c.gates[j] o=(⟨bj.outs++[o],setBR bj.bits c.gates[j].bit o,keptV bj.state (wire0 c.gates[j]) o⟩,0):=by unfold nextB;rw[if_pos hk13]
            have hSB:setBR bj.bits c.gates[j].bit o=orI (andNI b.bits (shlI 1 c.gates[j].bit)) (shlI o c.gates[j].bit):=by
              rw[hbits]
              exact (setB_eq hg1 hk13 hbit ho01).symm
            conv=>whnf
            refine W_draw (pol:=polL) Γok mixes [(0,.pendO),(1,.pendO),(2,.pendO),(3,.pendO),(4,.pendO),(5,.pendO),(6,.pendO),(7,.pendO),(8,.pendO),(9,.pendO),(10,.pendO)] 155 (by kernel_rfl) rfl ?_
            conv=>whnf
            refine dec_intro (by omega) ?_
            conv=>whnf
            refine dec_intro (by omega) ?_
            conv=>whnf
            refine⟨_,Rd_up (Rd.anyO (O:=emp) ⟨rfl,rfl,_,_,_,.inl hcb,rfl⟩) (sa.trans (hsq.trans (sb.trans sc))),?_⟩
            conv=>whnf
            rw[wrap_id (n:=(j:Int)+1) (by omega) (by omega)]
            have eo:(nextB bj c.gates[j] o).1.outs=b.outs++[o]:=by rw[next_outs hM,houts]
            have hcall:=ih (c.gates.length - (j+1)) (by omega) (j+1) (by omega) (nextB bj c.gates[j] o).1 [x0,x1,x2,x3,x4,x5,x6,x7] (k0+A.length) Hpq _ _ _ (hs0.trans (hsj.trans (sa.trans (hsq.trans (sb.trans sc))))) (up _ _ _ _ _ hJq (sb.trans sc)) (hRj.up (sa.trans (hsq.trans (sb.trans sc)))) (hbj.next (next_err hg1 hM hbj)) (next_bit hg1 hbit' ho01) (by rw[eo,hx8];exact hp.next (by omega) o) (by rw[eo,List.length_append];show b.outs.length+1+_≤_;omega) (by rw[enx];exact NumW.base (NumW.up hr2 sc) (subp _ _ _ _ hJq)) (by rw[← hsubq];exact subq)
            refine (Cl.args (by rw[eo,List.length_append,List.length_singleton,enx,hSB]<;>rfl) hcall).mono fun r He Me se hre=>?_
            rw[← hsubq] at hre
            rcases hre with⟨rfl,he0,hJe⟩ | ⟨rfl,hre⟩
            · conv=>whnf
              refine⟨(q+1,He,Me,A++((subG all (evG all ch (c.gates.drop (j+1))) bj c.gates[j]) o).1),⟨hiq,hsq.trans ((sb.trans sc).trans se),by rw[List.length_append,← Nat.add_assoc];exact hJe,stepq _ (Prod.ext rfl he0)⟩,by dsimp only;omega,?_⟩
              refine⟨rfl,rfl,?_⟩
              conv=>whnf
              repeat (refine⟨rfl,?_⟩;conv=>whnf)
              refine⟨by show En.v (.int .i64 (IntKind.i64.wrap (q+1)))=_;rw[wrap_id (by omega) (by omega)]<;>rfl,?_⟩
              conv=>whnf
              repeat (refine⟨rfl,?_⟩;conv=>whnf)
              exact trivial
            · conv=>whnf
              refine .inr ⟨rfl,?_⟩
              rcases hre with hx | ⟨he,hJe⟩
              · exact .inl hx
              · rw[stopq he]
                exact .inr ⟨he,by rw[List.length_append,← Nat.add_assoc];exact hJe⟩
        · have hsubq:(subG all (evG all ch (c.gates.drop (j+1))) bj c.gates[j]) o=evG all ch (c.gates.drop (j+1)) (nextB bj c.gates[j] o).1:=if_neg fun h=>by rw[h.1] at hall;exact absurd hall (by decide)
          conv=>whnf
          refine if_intro (fun hk13'=>?_) (fun hk13'=>?_)
          rotate_left
          · rw[hk13] at hk13'
            exact absurd hk13' (by decide)
          obtain⟨bt0,bt1⟩:=hg1.bit hk13
          have hm8:=hg1.b8
          have enx:nextB bj c.gates[j] o=(⟨bj.outs++[o],setBR bj.bits c.gates[j].bit o,keptV bj.state (wire0 c.gates[j]) o⟩,0):=by unfold nextB;rw[if_pos hk13]
          have hSB:setBR bj.bits c.gates[j].bit o=orI (andNI b.bits (shlI 1 c.gates[j].bit)) (shlI o c.gates[j].bit):=by
            rw[hbits]
            exact (setB_eq hg1 hk13 hbit ho01).symm
          conv=>whnf
          refine W_draw (pol:=polL) Γok mixes [(0,.pendO),(1,.pendO),(2,.pendO),(3,.pendO),(4,.pendO),(5,.pendO),(6,.pendO),(7,.pendO),(8,.pendO),(9,.pendO),(10,.pendO)] 155 (by kernel_rfl) rfl ?_
          conv=>whnf
          refine dec_intro (by omega) ?_
          conv=>whnf
          refine dec_intro (by omega) ?_
          conv=>whnf
          refine⟨_,Rd_up (Rd.anyO (O:=emp) ⟨rfl,rfl,_,_,_,.inl hcb,rfl⟩) (sa.trans (hsq.trans sb)),?_⟩
          conv=>whnf
          rw[wrap_id (n:=(j:Int)+1) (by omega) (by omega)]
          have eo:(nextB bj c.gates[j] o).1.outs=b.outs++[o]:=by rw[next_outs hM,houts]
          have hcall:=ih (c.gates.length - (j+1)) (by omega) (j+1) (by omega) (nextB bj c.gates[j] o).1 [x0,x1,x2,x3,x4,x5,x6,x7] (k0+A.length) Hpq _ _ _ (hs0.trans (hsj.trans (sa.trans (hsq.trans sb)))) (up _ _ _ _ _ hJq sb) (hRj.up (sa.trans (hsq.trans sb))) (hbj.next (next_err hg1 hM hbj)) (next_bit hg1 hbit' ho01) (by rw[eo,hx8];exact hp.next (by omega) o) (by rw[eo,List.length_append];show b.outs.length+1+_≤_;omega) (by rw[enx];exact NumW.base hr2 (subp _ _ _ _ hJq)) (by rw[← hsubq];exact subq)
          refine (Cl.args (by rw[eo,List.length_append,List.length_singleton,enx,hSB]<;>rfl) hcall).mono fun r He Me se hre=>?_
          rw[← hsubq] at hre
          rcases hre with⟨rfl,he0,hJe⟩ | ⟨rfl,hre⟩
          · conv=>whnf
            refine⟨(q+1,He,Me,A++((subG all (evG all ch (c.gates.drop (j+1))) bj c.gates[j]) o).1),⟨hiq,hsq.trans (sb.trans se),by rw[List.length_append,← Nat.add_assoc];exact hJe,stepq _ (Prod.ext rfl he0)⟩,by dsimp only;omega,?_⟩
            refine⟨rfl,rfl,?_⟩
            conv=>whnf
            repeat (refine⟨rfl,?_⟩;conv=>whnf)
            refine⟨by show En.v (.int .i64 (IntKind.i64.wrap (q+1)))=_;rw[wrap_id (by omega) (by omega)]<;>rfl,?_⟩
            conv=>whnf
            repeat (refine⟨rfl,?_⟩;conv=>whnf)
            exact trivial
          · conv=>whnf
            refine .inr ⟨rfl,?_⟩
            rcases hre with hx | ⟨he,hJe⟩
            · exact .inl hx
            · rw[stopq he]
              exact .inr ⟨he,by rw[List.length_append,← Nat.add_assoc];exact hJe⟩
      have hqq:q=cs.length:=by
        have:=of_decide_eq_false hcq
        omega
      subst hqq
      conv=>whnf
      have hE:evG all ch (c.gates.drop i) b=(A,0):=by rw[hrq,List.drop_length];show (A++[],0)=_;rw[List.append_nil]
      refine .inl ⟨rfl,?_,?_⟩
      · rw[hE]
      · rw[hE];exact⟨_,hJq⟩
  have hjj:j=c.gates.length:=by
    have:=of_decide_eq_false hcj
    omega
  subst hjj
  have hend:evG all ch (c.gates.drop i) b=if all=false∧deadB bj.state=true then ([],0) else ([bj],0):=by rw[hrun,List.drop_length]<;>rfl
  conv=>whnf
  refine⟨_,rdall _,?_⟩
  conv=>whnf
  refine if_intro (fun hall=>?_) (fun hall=>?_)
  · conv=>whnf
    refine (d67 bj.state (by rw[hbj.len];omega) hbj.right _ _ hsvj).val fun Hc sc=>?_
    conv=>whnf
    refine if_intro (fun hdead=>?_) (fun hdead=>?_)
    · conv=>whnf
      have hE:evG all ch (c.gates.drop i) b=([],0):=by rw[hend,if_pos ⟨by simpa using hall,hdead⟩]
      exact .inl ⟨rfl,by rw[hE],by rw[hE];exact⟨_,up _ _ _ _ _ hJj sc⟩⟩
    · conv=>whnf
      refine W_draw (pol:=polL) Γok mixes [(0,.pend),(1,.pendO),(3,.pend),(4,.pend),(2,.lock),(5,.pendO),(6,.lock),(7,.pendO)] 155 (by kernel_rfl) rfl ?_
      conv=>whnf
      refine⟨_,Rd_up (Rd.anyO (O:=emp) ⟨rfl,rfl,_,_,_,.inl hyb,rfl⟩) (sc),?_⟩
      conv=>whnf
      have hE:evG all ch (c.gates.drop i) b=([bj],0):=by rw[hend,if_neg (fun h=>by rw[hdead] at h;exact absurd h.2 (by simp))]
      refine (d105n [a0,a1,a2,a3,a4,a5,a6,a7] b.outs rfl hp.le hp.eq _).use fun r Hz sz hr=>?_
      obtain⟨_,hr⟩:=hr
      obtain⟨rb',rc',rfl,_⟩:=IntsW.c hr
      conv=>whnf
      refine (hy k0 (bj,0) (by have:=hys 0 (bj,0) (by rw[hE]<;>rfl);exact this) _ _ _ _ (hs0.trans (hsj.trans ((sc).trans sz))) (up _ _ _ _ _ hJj ((sc).trans sz)) ⟨.slice rb' b.outs.length rc',.slice svb bj.state.length svc,by rw[hbits],by rw[houts];exact IntsW.base hr ((subp _ _ _ _ hJj).trans (sc)),NumW.up hsvw ((sc).trans sz)⟩).mono fun v H' M' hs hq=>?_
      rcases hq with⟨rfl,hJ'⟩ | ⟨rfl,hX⟩
      · conv=>whnf
        exact .inl ⟨rfl,by rw[hE],by rw[hE];exact⟨_,hJ'⟩⟩
      · conv=>whnf
        exact .inr ⟨rfl,.inl hX⟩
  · conv=>whnf
    refine W_draw (pol:=polL) Γok mixes [(0,.pend),(1,.pendO),(3,.pend),(4,.pend),(2,.lock),(5,.pendO),(6,.lock),(7,.pendO)] 155 (by kernel_rfl) rfl ?_
    conv=>whnf
    refine⟨_,Rd_up (Rd.anyO (O:=emp) ⟨rfl,rfl,_,_,_,.inl hyb,rfl⟩) (Sub.refl _),?_⟩
    conv=>whnf
    have hE:evG all ch (c.gates.drop i) b=([bj],0):=by rw[hend,if_neg (fun h=>by rw[h.1] at hall;exact absurd hall (by decide))]
    refine (d105n [a0,a1,a2,a3,a4,a5,a6,a7] b.outs rfl hp.le hp.eq _).use fun r Hz sz hr=>?_
    obtain⟨_,hr⟩:=hr
    obtain⟨rb',rc',rfl,_⟩:=IntsW.c hr
    conv=>whnf
    refine (hy k0 (bj,0) (by have:=hys 0 (bj,0) (by rw[hE]<;>rfl);exact this) _ _ _ _ (hs0.trans (hsj.trans ((Sub.refl _).trans sz))) (up _ _ _ _ _ hJj ((Sub.refl _).trans sz)) ⟨.slice rb' b.outs.length rc',.slice svb bj.state.length svc,by rw[hbits],by rw[houts];exact IntsW.base hr ((subp _ _ _ _ hJj).trans (Sub.refl _)),NumW.up hsvw ((Sub.refl _).trans sz)⟩).mono fun v H' M' hs hq=>?_
    rcases hq with⟨rfl,hJ'⟩ | ⟨rfl,hX⟩
    · conv=>whnf
      exact .inl ⟨rfl,by rw[hE],by rw[hE];exact⟨_,hJ'⟩⟩
    · conv=>whnf
      exact .inr ⟨rfl,.inl hX⟩
end Go.Proofs.YtmhnalikebkhjaaGreatDoor

namespace Go.Proofs.YtmhnalikebkhjaaGreatDoor
open Go.Proofs.YtmhnalikebkhjaaGreatDoor.X Go.Proofs.YtmhnalikebkhjaaGreatDoor.X.PH
set_option maxRecDepth 100000
theorem Repart.back {H M : PH} {b:Nat} {o:Obj} (hd:Dis H (ins M b o)) (hM:M b=none):Repart H (ins M b o) (ins H b o) M:=by
  have hH:H b=none:=(hd b).resolve_right (by rw[ins_same];simp)
  refine⟨sub_ins H o hH,sub_ins M o hM,fun n o' hn=>?_,fun n=>?_⟩
  · by_cases e:n=b
    · subst e;rw[ins_same] at hn ⊢;exact .inr hn
    · rw[ins_ne _ _ e] at hn;exact .inl hn
  · by_cases e:n=b
    · subst e;exact .inr hM
    · rw[ins_ne _ _ e]
      have:=hd n
      rwa [ins_ne _ _ e] at this
set_option maxHeartbeats 8000000 in
theorem d103n (c : Ct) (n m:Nat) (v:Vec) (hok:RunOK c v n m) (l rb vb:Nat) (gs chf sv:Value) (bm:Nat) (all:Bool) (ch:Nat→List Int) (hch:∀ k,k < 8→(ch k).length≤2∧∀ o∈ch k,o=0∨o=1) (J:Nat→PH→PH→PH→Prop) (Jx:PH→PH→Prop) (H0 H M:PH)
    (hs0:Sub H0 H) (hJ:J 0 H H M) (hrun:∃ t fr,H rb=some (.cells ⟨runCells c gs bm chf all⟩ t fr)) (hvb:∃ t fr,H vb=some (.cells ⟨[sv]⟩ t fr)) (hsv:NumH H sv v) (hgs:GatesH H gs c.gates)
    (hcho:∀ lp os,PathOK lp os→os.length < foundN c.gates→Does Tryz.prog H chf [pv lp os.length] fun r H'=>IntsH H' r (ch os.length))
    (up:∀ k Hp H' H'' M',J k Hp H' M'→Sub H' H''→J k Hp H'' M') (subp:∀ k Hp H' M',J k Hp H' M'→Sub Hp H') (inv:∀ k Hp H' M',J k Hp H' M'→∃ o,M' bm=some o∧OpsI H' o) (chg:∀ k Hp H' M' o,J k Hp H' M'→OpsI H' o→J k Hp H' (ins M' bm o))
    (hy:∀ k y,(ysOf (evG all ch c.gates (startB v)))[k]?=some y→∀ x Hp H' M',Sub H0 H'→J k Hp H' M'→BrN y x Hp H'→Yl Tryz.prog l x H' M' fun v H'' M''=>(v=.bool true∧J (k+1) H'' H'' M'')∨(v=.bool false∧Jx H'' M'')) :
    Cl Tryz.prog 103 [.func (.yield l) #[] #[],adr rb,adr vb] H M fun _ H' M'=>(∃ Hp,J (ysOf (evG all ch c.gates (startB v))).length Hp H' M')∨Jx H' M':=by
  obtain⟨svb,svc,rfl,_⟩:=id hsv
  obtain⟨gb,gc,rfl⟩:=hgs.sl
  obtain⟨tr,fr,hrb⟩:=hrun
  obtain⟨tv,fv,hvb⟩:=hvb
  obtain⟨p1,p2⟩:=pow6 hok.n6
  have hvl:=hok.vlen
  refine Cl_of (pol:=(fun | 3=>.imm | 4=>.own | _=>.loc)) Γok Tryz.func103 (by kernel_rfl) rfl ?_
  conv=>whnf
  intro b3 hb3 hO3
  conv=>whnf
  have s3:=sub_ins H (.cells ⟨[.func (.yield l) #[] #[]]⟩ 121 (0,0)) hb3
  intro b4 hb4 hO4
  conv=>whnf
  refine⟨_,_,ins_same _ _ _,Nat.le_refl 1,?_⟩
  rw[ins_ins]
  conv=>whnf
  refine W_pre fun hd=>⟨ins (ins H b3 (.cells ⟨[.func (.yield l) #[] #[]]⟩ 121 (0,0))) b4 (.cells ⟨[.func (.func 104) #[] #[adr rb,adr b3,adr b4]]⟩ 122 (0,0)),M,?_,?_⟩
  · exact Repart.back hd hO4
  refine W_draw (pol:=(fun | 3=>.imm | 4=>.own | _=>.loc)) Γok mixes [(0,.pend),(1,.pend),(2,.pendO),(3,.lock),(4,.lock)] 11 (by kernel_rfl) rfl ?_
  conv=>whnf
  refine⟨_,Rd.anyO (O:=emp) ⟨rfl,rfl,_,_,_,.inl (ins_same _ _ _),rfl⟩,?_⟩
  conv=>whnf
  have s4:=sub_ins (ins H b3 (.cells ⟨[.func (.yield l) #[] #[]]⟩ 121 (0,0))) (.cells ⟨[.func (.func 104) #[] #[adr rb,adr b3,adr b4]]⟩ 122 (0,0)) hb4
  have s34:=s3.trans s4
  refine⟨_,Rd_up (Rd.anyO (O:=emp) ⟨rfl,rfl,_,_,_,.inl hvb,rfl⟩) s34,?_⟩
  conv=>whnf
  refine (d95n v (by omega) _ _ (NumH.up hsv s34)).use fun r Ha sa hr=>?_
  obtain⟨_,hr⟩:=hr
  obtain⟨kb,kc,rfl,_⟩:=NumW.num hr
  conv=>whnf
  have hst:startB v=⟨[],0,leastV v⟩:=rfl
  have hcall:=d104n c n m v hok l rb b3 b4 (.slice gb c.gates.length gc) chf bm all ch hch (ysOf (evG all ch c.gates (startB v))) H0 J Jx up subp inv chg hy c.gates.length 0 (by omega) (startB v) [0,0,0,0,0,0,0,0] 0 H Ha M _ (hs0.trans (s34.trans sa)) (up _ _ _ _ _ hJ (s34.trans sa)) ⟨⟨tr,fr,(s34.trans sa) _ _ hrb⟩,⟨_,_,(s4.trans sa) _ _ (ins_same _ _ _)⟩,⟨_,_,sa _ _ (ins_same _ _ _)⟩,hgs.up (s34.trans sa),fun lp os h1 h2=>(hcho lp os h1 h2).up (s34.trans sa)⟩ hok.start ⟨Int.le_refl _,by have:=Nat.pow_pos (a:=2) (n:=m) (by decide);show (0:Int) < _;omega⟩ ⟨rfl,Nat.zero_le 8,rfl⟩ (by rw[List.drop_zero];show 0+_≤_;omega) (NumW.base hr s34) (by rw[List.drop_zero];intro j y h;rw[Nat.zero_add];exact h)
  rw[List.drop_zero] at hcall
  refine (Cl.args rfl hcall).mono fun r Hb Mb sb hq=>?_
  conv=>whnf
  rcases hq with⟨_,he,_,hJ'⟩ | ⟨_,hX | ⟨he,_,hJ'⟩⟩
  · refine .inl ?_
    unfold ysOf
    rw[List.length_append,List.length_map,he,if_neg (by simp)]
    rw[Nat.zero_add] at hJ'
    exact⟨_,hJ'⟩
  · exact .inr hX
  · refine .inl ?_
    unfold ysOf
    rw[List.length_append,List.length_map,if_pos he]
    rw[Nat.zero_add] at hJ'
    exact⟨_,hJ'⟩
theorem d62n (c : Ct) (n m:Nat) (v:Vec) (hok:RunOK c v n m) (gs sv:Value) (cf:Nat) (cap:List Value) (bm:Nat) (all:Bool) (ch:Nat→List Int) (hch:∀ k,k < 8→(ch k).length≤2∧∀ o∈ch k,o=0∨o=1) (H:PH)
    (hsv:NumH H sv v) (hgs:GatesH H gs c.gates)
    (hcho:∀ lp os,PathOK lp os→os.length < foundN c.gates→Does Tryz.prog H (.func (.func cf) #[] ⟨cap⟩) [pv lp os.length] fun r H'=>IntsH H' r (ch os.length)) :
    Cl Tryz.prog 62 [.agg ⟨runCells c gs bm (.func (.func cf) #[] ⟨cap⟩) all⟩,sv] H emp fun r H' _=>IterN Tryz.prog bm OpsI H' r (ysOf (evG all ch c.gates (startB v))) BrN:=by
  obtain⟨svb,svc,rfl,_⟩:=id hsv
  obtain⟨gb,gc,rfl⟩:=hgs.sl
  refine Cl_of (pol:=(fun | 2=>.imm | 3=>.imm | _=>.loc)) Γok Tryz.func62 (by kernel_rfl) rfl ?_
  conv=>whnf
  intro b2 hb2 hO2
  conv=>whnf
  have s2:=sub_ins H (.cells ⟨runCells c (.slice gb c.gates.length gc) bm (.func (.func cf) #[] ⟨cap⟩) all⟩ 94 (0,0)) hb2
  intro b3 hb3 hO3
  conv=>whnf
  have s3:=sub_ins (ins H b2 (.cells ⟨runCells c (.slice gb c.gates.length gc) bm (.func (.func cf) #[] ⟨cap⟩) all⟩ 94 (0,0))) (.cells ⟨[.slice svb v.length svc]⟩ 25 (0,0)) hb3
  refine⟨103,[],[adr b2,adr b3],rfl,fun H' hs l M J Jx h0 up subp inv chg hy=>?_⟩
  have s23:=(s2.trans s3).trans hs
  exact d103n c n m v hok l b2 b3 (.slice gb c.gates.length gc) (.func (.func cf) #[] ⟨cap⟩) (.slice svb v.length svc) bm all ch hch J Jx H' H' M (Sub.refl _) h0 ⟨_,_,(s3.trans hs) _ _ (ins_same _ _ _)⟩ ⟨_,_,hs _ _ (ins_same _ _ _)⟩ (NumH.up hsv s23) (hgs.up s23) (fun lp os h1 h2=>(hcho lp os h1 h2).up s23) up subp inv chg hy
end Go.Proofs.YtmhnalikebkhjaaGreatDoor

namespace Go.Proofs.YtmhnalikebkhjaaGreatDoor
open Go.Proofs.YtmhnalikebkhjaaGreatDoor.X Go.Proofs.YtmhnalikebkhjaaGreatDoor.X.PH
set_option maxRecDepth 100000
def BrCN (H0 H : PH) (b:Br) (c:List Value):Prop:=∃ ov sv,c=[ov,.int .i64 b.bits,sv]∧IntsW H0 H ov b.outs∧NumW H0 H sv b.state
theorem BrCN.up {H0 H H' : PH} {b:Br} {c:List Value} (h:BrCN H0 H b c) (hs:Sub H H'):BrCN H0 H' b c:=by
  obtain⟨ov,sv,e,h1,h2⟩:=h
  exact⟨ov,sv,e,IntsW.up h1 hs,NumW.up h2 hs⟩
theorem BrCN.base {H0 H1 H : PH} {b:Br} {c:List Value} (h:BrCN H1 H b c) (hs:Sub H0 H1):BrCN H0 H b c:=by
  obtain⟨ov,sv,e,h1,h2⟩:=h
  exact⟨ov,sv,e,IntsW.base h1 hs,NumW.base h2 hs⟩
theorem BrCN.c {H0 H : PH} {b:Br} {c:List Value} (h:BrCN H0 H b c):BrC H b c:=by
  obtain⟨ov,sv,e,h1,h2⟩:=h
  exact⟨ov,sv,e,IntsW.c h1,NumW.num h2⟩
def BrsN (H0 H : PH) (bs:List Br) (cs:List (List Value)):Prop:=cs.length=bs.length∧∀ (j:Nat) b c,bs[j]?=some b→cs[j]?=some c→∃ Hp,Sub H0 Hp∧Sub Hp H∧BrCN Hp H b c∧∀ (i:Nat) b' c',i < j→bs[i]?=some b'→cs[i]?=some c'→BrCN H0 Hp b' c'
theorem BrsN.nil (H0 H : PH):BrsN H0 H [] []:=⟨rfl,fun j b c h=>by simp at h⟩
theorem BrsN.up {H0 H H' : PH} {bs:List Br} {cs:List (List Value)} (h:BrsN H0 H bs cs) (hs:Sub H H'):BrsN H0 H' bs cs:=⟨h.1,fun j b c h1 h2=>by
  obtain⟨Hp,a1,a2,a3,a4⟩:=h.2 j b c h1 h2
  exact⟨Hp,a1,a2.trans hs,a3.up hs,a4⟩⟩
theorem BrsN.at {H0 H : PH} {bs:List Br} {cs:List (List Value)} (h:BrsN H0 H bs cs) {j:Nat} {b:Br} {c:List Value} (h1:bs[j]?=some b) (h2:cs[j]?=some c):BrCN H0 H b c:=by
  obtain⟨Hp,a1,a2,a3,a4⟩:=h.2 j b c h1 h2
  exact a3.base a1
theorem BrsN.snoc {H0 Hp H : PH} {bs:List Br} {cs:List (List Value)} {b:Br} {c:List Value} (h:BrsN H0 Hp bs cs) (h0:Sub H0 Hp) (hs:Sub Hp H) (hn:BrCN Hp H b c):BrsN H0 H (bs++[b]) (cs++[c]):=by
  refine⟨by simp[h.1],fun j b1 c1 h1 h2=>?_⟩
  by_cases hj:j < bs.length
  · rw[List.getElem?_append_left hj] at h1
    rw[List.getElem?_append_left (by rw[h.1];exact hj)] at h2
    obtain⟨Hq,a1,a2,a3,a4⟩:=h.2 j b1 c1 h1 h2
    refine⟨Hq,a1,a2.trans hs,a3.up hs,fun i b' c' hi h3 h4=>a4 i b' c' hi ?_ ?_⟩
    · rwa [List.getElem?_append_left (by omega)] at h3
    · rwa [List.getElem?_append_left (by rw[h.1];omega)] at h4
  · have hlt:j < (bs++[b]).length:=(List.getElem?_eq_some_iff.1 h1).1
    rw[List.length_append,List.length_singleton] at hlt
    have:j=bs.length:=by omega
    subst this
    rw[List.getElem?_append_right (Nat.le_refl _),Nat.sub_self] at h1
    rw[List.getElem?_append_right (by rw[h.1];exact Nat.le_refl _),h.1,Nat.sub_self] at h2
    cases h1;cases h2
    refine⟨Hp,h0,hs,hn,fun i b' c' hi h3 h4=>?_⟩
    rw[List.getElem?_append_left hi] at h3
    rw[List.getElem?_append_left (by rw[h.1];exact hi)] at h4
    exact h.at h3 h4
theorem BrsN.brs {H0 H : PH} {bs:List Br} {cs:List (List Value)} (h:BrsN H0 H bs cs):BrsC H bs cs:=⟨h.1,fun i b c h1 h2=>(h.at h1 h2).c⟩
def OutBsN (H0 H M : PH) (r:Value) (x:List Br × Int):Prop:=∃ u cs,r=.tuple #[u,.int .i64 x.2]∧OwnS M 3 47 u cs∧BrsN H0 H x.1 cs
theorem OutBsN.bad {H0 H M : PH} {e:Int}:OutBsN H0 H M (.tuple #[.slice none 0 0,.int .i64 e]) ([],e):=⟨_,[],rfl,⟨by simp,.inl ⟨rfl,rfl⟩⟩,BrsN.nil _ _⟩
theorem run_nil : ∀ (gs:List Gt) (b:Br),(runB gs b).2 ≠ 0→(runB gs b).1=[]
  | [],b,h=>by
    unfold runB at h
    split at h<;>exact absurd rfl h
  | g::gs,b,h=>by
    unfold runB at h ⊢
    by_cases hM:isM g=false
    · rw[if_pos hM] at h ⊢
      by_cases he:(nextB b g 0).2 ≠ 0
      · rw[if_pos he]
      · rw[if_neg he] at h ⊢
        exact run_nil gs _ h
    · rw[if_neg hM] at h ⊢
      by_cases h0:(subR (runB gs) b g 0).2 ≠ 0
      · rw[if_pos h0]
      rw[if_neg h0] at h ⊢
      by_cases h1:(subR (runB gs) b g 1).2 ≠ 0
      · rw[if_pos h1]
      rw[if_neg h1] at h
      exact absurd rfl h
theorem ys_at {E : List Br × Int} {k:Nat} {y:Br × Int} (h:(ysOf E)[k]?=some y):(∃ hk:k < E.1.length,y=(E.1[k],0))∨(k=E.1.length∧E.2 ≠ 0∧y=(br0,E.2)):=by
  unfold ysOf at h
  by_cases hk:k < E.1.length
  · rw[List.getElem?_append_left (by rw[List.length_map];exact hk),List.getElem?_map,List.getElem?_eq_getElem hk] at h
    cases h
    exact .inl ⟨hk,rfl⟩
  · rw[List.getElem?_append_right (by rw[List.length_map];omega),List.length_map] at h
    by_cases he:E.2 ≠ 0
    · rw[if_pos he] at h
      have hlt:=(List.getElem?_eq_some_iff.1 h).1
      rw[List.length_singleton] at hlt
      have:k=E.1.length:=by omega
      subst this
      rw[Nat.sub_self] at h
      cases h
      exact .inr ⟨rfl,he,rfl⟩
    · rw[if_neg he] at h
      simp at h
theorem ys_len {E : List Br × Int}:(ysOf E).length=E.1.length+if E.2 ≠ 0 then 1 else 0:=by
  unfold ysOf
  rw[List.length_append,List.length_map]
  split<;>rfl
def runE (c : Ct) (v:Vec):List Br × Int:=evG false (fun _=>[0,1]) c.gates (startB v)
theorem runE_eq {c : Ct} {v:Vec} {n m:Nat} (he:beginErr c v=0) (h:RunOK c v n m):(runE c v).2=(runR c v).2∧((runR c v).2=0→(runE c v).1=(runR c v).1)∧((runR c v).2 ≠ 0→(runR c v).1=[]):=by
  rw[show runR c v=runB c.gates (startB v) from if_neg (by rw[he];simp)]
  obtain⟨h1,h2⟩:=runB_evG c.gates (startB v) 0 h.gates h.start
  exact⟨h1,h2,run_nil _ _⟩
theorem evG_len : ∀ (gs:List Gt) (b:Br),(evG false (fun _=>[0,1]) gs b).1.length≤2 ^ foundN gs
  | [],b=>by
    unfold evG
    split<;>simp[foundN]
  | g::gs,b=>by
    have hs:∀ o,(subG false (evG false (fun _=>[0,1]) gs) b g o).1.length≤2 ^ foundN gs:=fun o=>by
      unfold subG
      split
      · simp
      · exact evG_len gs _
    have hp:0 < 2 ^ foundN gs:=Nat.pow_pos (by decide)
    rw[foundN_cons]
    unfold evG
    by_cases h:isM g=false
    · rw[if_pos h,show (if isM g=true then 1 else 0)+foundN gs=foundN gs from by rw[h];simp]
      split
      · simp
      · exact evG_len gs _
    · have ht:isM g=true:=by simpa using h
      rw[if_neg h,show (if isM g=true then 1 else 0)+foundN gs=foundN gs+1 from by rw[ht];simp;omega,Nat.pow_succ]
      have h0:=hs 0
      have h1:=hs 1
      have c1:(evC (subG false (evG false (fun _=>[0,1]) gs) b g) [1]).1.length≤2 ^ foundN gs:=by
        rw[evC_one];exact h1
      rw[evC_cons]
      split
      · omega
      · rw[List.length_append];omega
theorem cho01 (H : PH):∀ lp os,PathOK lp os→Does Tryz.prog H (.func (.func 102) #[] #[]) [pv lp os.length] fun r H'=>IntsH H' r [0,1]:=fun lp os h=>⟨102,[],[],rfl,fun H' _=>(d102 (pv lp os.length) lp os.length h.len rfl H').mono fun _ _ _ _ h=>h⟩
theorem own_set_map {O : PH} {t:TypeId} {sz:Nat} {u:Value} {xs:List (List Value)} {bm:Nat} {o o':Obj} (h:OwnS O sz t u xs) (hb:O bm=some o) (hm:∃ es clk,o=.map es clk):OwnS (ins O bm o') sz t u xs:=OwnS.keep h fun n cs hn=>(ins_ne _ _ fun e=>by
  obtain⟨es,clk,rfl⟩:=hm
  rw[e,hb] at hn
  cases hn).trans hn
theorem OwnS.toA {O : PH} {t:TypeId} {sz:Nat} {u:Value} {xs:List (List Value)} (h:OwnS O sz t u xs):∃ ob,OwnA O sz t u xs ob∧∀ b,ob=some b→∃ c,O b=some (.cells c t (0,0)):=by
  obtain⟨h1,h2⟩:=h
  rcases h2 with⟨h,h'⟩ | ⟨b,cap,sp,h,hO,q⟩
  · exact⟨none,⟨h1,.inl ⟨rfl,h,h'⟩⟩,fun b e=>by cases e⟩
  · exact⟨some b,⟨h1,.inr ⟨b,cap,sp,rfl,h,hO,q⟩⟩,fun b' e=>by cases e;exact⟨_,hO⟩⟩
theorem OwnA.delS {O : PH} {t:TypeId} {sz:Nat} {u:Value} {xs:List (List Value)} {b l:Nat} (h:OwnA O sz t u xs (some b)) (hne:b ≠ l):OwnS (del O l) sz t u xs:=by
  obtain⟨h1,h2⟩:=h
  rcases h2 with⟨h,_⟩ | ⟨b',cap,sp,e,h,hO,q⟩
  · cases h
  · cases e
    exact⟨h1,.inr ⟨b,cap,sp,h,(del_ne _ hne).trans hO,q⟩⟩
theorem ins_del {O : PH} {l:Nat} {o:Obj} (h:O l=some o):O=ins (del O l) l o:=by
  funext n
  by_cases e:n=l
  · subst e;rw[ins_same,h]
  · rw[ins_ne _ _ e,del_ne _ e]
theorem OpsI.map {H : PH} {o:Obj} (h:OpsI H o):∃ es clk,o=.map es clk:=by
  obtain⟨es,clk,rfl,_⟩:=h
  exact⟨_,_,rfl⟩
theorem OpsI.nil (H : PH):OpsI H (.map #[] 0):=⟨[],0,rfl,fun n=>.inl rfl⟩
set_option maxHeartbeats 4000000 in
theorem d16 (c : Ct) (v:Vec) (gs:Value) (hfit:c.fit) (hv:v.length≤100000) (H:PH) (y:Value) (hx:GatesH H gs c.gates) (hy:NumH H y v):Cl Tryz.prog 16 [cv c gs,y] H emp fun r H' M'=>OutBsN H H' M' r (runR c v):=by
  have hg:=hx
  obtain⟨gb,gc,rfl⟩:=hx.sl
  obtain⟨yb,yc,rfl,_⟩:=id hy
  refine Cl_of (pol:=(fun | 32=>.imm | _=>.loc)) Γok Tryz.func16 (by kernel_rfl) rfl ?_
  conv=>whnf
  intro b2
  conv=>whnf
  intro b4
  conv=>whnf
  intro b5
  conv=>whnf
  refine (d61 c v (.slice gb c.gates.length gc) hfit hv _ _ hg hy).mono fun r Ha Ma sa hr=>?_
  rcases hr with⟨he,rfl⟩ | ⟨he,bm,hbm,rfl⟩
  · conv=>whnf
    intro b6
    conv=>whnf
    refine if_intro (fun h=>?_) (fun h=>?_)
    · conv=>whnf
      rw[show runR c v=([],beginErr c v) from if_pos he]
      exact OutBsN.bad
    · exact absurd (eq_of_neq h) he
  obtain⟨n,m,hok⟩:=run_ok he
  obtain⟨e1,e2,e3⟩:=runE_eq he hok
  conv=>whnf
  intro b6
  conv=>whnf
  intro b9
  conv=>whnf
  refine (d62n c n m v hok (.slice gb c.gates.length gc) (.slice yb v.length yc) 102 [] bm false (fun _=>[0,1]) (fun k _=>⟨by simp,by simp⟩) _ (NumH.up hy sa) (hg.up sa) (fun lp os h _=>cho01 _ lp os h)).use fun it Hb sb hit=>?_
  obtain⟨_,hit⟩:=hit
  conv=>whnf
  have hit:IterN Tryz.prog bm OpsI Hb it (ysOf (runE c v)) BrN:=hit
  generalize hE:runE c v=E at hit e1 e2
  refine W_rangeN (pol:=(fun | 32=>.imm | _=>.loc)) Γok (ysOf E) BrN hit (PH × PH × Value × List (List Value) × Int)
    (fun k i H'=>i.2.2.2.2=0∧k≤E.1.length∧Sub Hb i.1∧(∃ o,i.2.1 bm=some o∧OpsI H' o)∧OwnS i.2.1 3 47 i.2.2.1 i.2.2.2.1∧BrsN H i.1 (E.1.take k) i.2.2.2.1)
    (fun x i _=>x=.ret∧i.2.2.2.2=E.2∧E.2 ≠ 0)
    (fun i=>[(1,[.slice none 0 0]),(2,[.int .i64 i.2.2.2.2]),(4,[i.2.2.1])]) (fun i=>i.2.1) (fun i=>i.1) ?_ ?_ ?_ ?_ ⟨(Hb,Ma,.slice none 0 0,[],0),⟨rfl,Nat.zero_le _,Sub.refl _,⟨_,hbm,OpsI.nil _⟩,⟨by simp,.inl ⟨rfl,rfl⟩⟩,BrsN.nil _ _⟩,rfl,rfl,?_⟩ ?_ ?_ ?_
  · rintro k i H1 H2 hs ⟨a1,a2,a3,⟨o,a4,a5⟩,a6,a7⟩
    exact⟨a1,a2,a3,⟨o,a4,a5.up hs⟩,a6,a7⟩
  · rintro x i H1 H2 hs h
    exact h
  · rintro k i H' ⟨a1,a2,a3,a4,a5,a6⟩
    exact a4
  · rintro k ⟨i1,i2,i3,i4,i5⟩ H' o ⟨a1,a2,a3,⟨o',a4,a4'⟩,a5,a6⟩ ho
    exact⟨(i1,ins i2 bm o,i3,i4,i5),⟨a1,a2,a3,⟨o,ins_same _ _ _,ho⟩,own_set_map a5 a4 a4'.map,a6⟩,rfl,rfl,rfl⟩
  · conv=>whnf
    repeat (refine⟨rfl,?_⟩;conv=>whnf)
  · rintro k y hyk x ⟨i1,i2,i3,i4,i5⟩ H' hs' ⟨a1,a2,a3,⟨om,a4,a4'⟩,a5,a6⟩ hsp ⟨ov,sv,rfl,hov,hsv⟩ l o o' hl
    dsimp only at a1 a2 a3 a4 a5 a6 hsp hov hsv hl
    subst a1
    obtain⟨ub,un',uc,rfl⟩:=OwnS.sl a5
    obtain⟨ovb,ovc,rfl,_⟩:=IntsW.c hov
    obtain⟨svb,svc,rfl,_⟩:=NumW.num hsv
    conv=>whnf
    intro b10
    conv=>whnf
    refine⟨rfl,?_⟩
    conv=>whnf
    refine⟨i2,rfl,?_⟩
    conv=>whnf
    refine if_intro (fun h=>?_) (fun h=>?_)
    · have hy2:y.2 ≠ 0:=neq_of h
      rcases ys_at hyk with⟨hk,rfl⟩ | ⟨hk,h2,rfl⟩
      · exact absurd rfl hy2
      conv=>whnf
      refine⟨(i1,i2,.slice ub un' uc,i4,E.2),.inr ⟨⟨rfl,rfl,h2⟩,rfl⟩,hl,rfl,?_⟩
      conv=>whnf
      repeat (refine⟨rfl,?_⟩;conv=>whnf)
      exact trivial
    · have hy2:y.2=0:=eq_of_neq h
      rcases ys_at hyk with⟨hk,rfl⟩ | ⟨hk,h2,rfl⟩
      rotate_left
      · exact absurd hy2 h2
      conv=>whnf
      intro b32 hb32 hO32
      conv=>whnf
      have s32:=sub_ins H' (.cells ⟨[.slice ovb E.1[k].outs.length ovc,.int .i64 E.1[k].bits,.slice svb E.1[k].state.length svc]⟩ 47 (0,0)) hb32
      have hcl:i4.length=k:=by rw[a6.1,List.length_take];omega
      have hkk:E.1.length≤256:=by
        rw[← hE]
        have:=evG_len c.gates (startB v)
        have h2:=Nat.pow_le_pow_right (n:=2) (by decide) hok.few
        exact Nat.le_trans this h2
      obtain⟨oa,hoa,hob⟩:=OwnS.toA a5
      have hlo:∀ b,oa=some b→b ≠ l:=fun b e=>by
        obtain⟨c,hc⟩:=hob b e
        intro e2
        rw[e2,hl] at hc
        cases hc
      refine append_ap (OwnA.up hoa (sub_ins i2 o' hl)) rfl (y:=[.slice ovb E.1[k].outs.length ovc,.int .i64 E.1[k].bits,.slice svb E.1[k].state.length svc]) rfl (by simp[Value.oneCell']) ⟨_,_,_,rfl,rfl,⟨rfl,rfl,_,_,_,.inl (ins_same _ _ _),rfl⟩⟩ (by rw[hcl];omega) fun u' O' bu hu' hbu hkeep=>?_
      have hu2:=hu'
      obtain⟨ub',uc',rfl⟩:=OwnA.sl hu'
      conv=>whnf
      have hbl:bu ≠ l:=by
        rcases hbu with h | h
        · exact hlo bu h
        · intro e;rw[e,ins_same] at h;cases h
      have hbml:bm ≠ l:=fun e=>by rw[e,hl] at a4;cases a4
      have hbm':O' bm=some om:=hkeep bm om (by rw[ins_ne _ _ hbml];exact a4) fun e=>by
        obtain⟨c,hc⟩:=hob bm e
        obtain⟨es,clk,rfl⟩:=a4'.map
        rw[a4] at hc
        cases hc
      have hl':O' l=some o':=hkeep l o' (ins_same _ _ _) fun e=>hlo l e rfl
      refine⟨(ins H' b32 (.cells ⟨[.slice ovb E.1[k].outs.length ovc,.int .i64 E.1[k].bits,.slice svb E.1[k].state.length svc]⟩ 47 (0,0)),del O' l,.slice ub' (i4++[([.slice ovb E.1[k].outs.length ovc,.int .i64 E.1[k].bits,.slice svb E.1[k].state.length svc]:List Value)]).length uc',i4++[[.slice ovb E.1[k].outs.length ovc,.int .i64 E.1[k].bits,.slice svb E.1[k].state.length svc]],0),.inl ⟨rfl,⟨rfl,hk,a3.trans (hsp.trans s32),⟨om,(del_ne _ hbml).trans hbm',a4'.up s32⟩,OwnA.delS hu2 hbl,?_⟩,rfl⟩,del_same _ _,ins_del hl',?_⟩
      · rw[List.take_succ_eq_append_getElem hk]
        exact BrsN.snoc a6 ((sa.trans sb).trans a3) (hsp.trans s32) ⟨_,_,rfl,IntsW.up hov s32,NumW.up hsv s32⟩
      conv=>whnf
      repeat (refine⟨rfl,?_⟩;conv=>whnf)
      exact trivial
  · rintro ⟨i1,i2,i3,i4,i5⟩ H' hs' ⟨a1,a2,a3,⟨om,a4,a4'⟩,a5,a6⟩ hsp
    dsimp only at a1 a2 a3 a4 a5 a6 hsp
    subst a1
    obtain⟨ub,un',uc,rfl⟩:=OwnS.sl a5
    have hE2:E.2=0:=by
      rw[ys_len] at a2
      by_cases h:E.2 ≠ 0
      · rw[if_pos h] at a2;omega
      · simpa using h
    have hlen:(ysOf E).length=E.1.length:=by rw[ys_len,if_neg (by rw[hE2];simp),Nat.add_zero]
    rw[hlen,List.take_length] at a6
    conv=>whnf
    refine⟨_,i4,by rw[← e1,hE2],a5,?_⟩
    rw[← e2 (by rw[← e1];exact hE2)]
    exact a6.up hsp
  · rintro x ⟨i1,i2,i3,i4,i5⟩ H' hs' ⟨rfl,a1,a2⟩
    dsimp only at a1
    subst a1
    conv=>whnf
    refine⟨_,[],by rw[← e1],⟨by simp,.inl ⟨rfl,rfl⟩⟩,?_⟩
    rw[e3 (by rw[← e1];exact a2)]
    exact BrsN.nil _ _
end Go.Proofs.YtmhnalikebkhjaaGreatDoor

namespace Go.Proofs.YtmhnalikebkhjaaGreatDoor
open Go.Proofs.YtmhnalikebkhjaaGreatDoor.X Go.Proofs.YtmhnalikebkhjaaGreatDoor.X.PH
set_option maxRecDepth 100000
def e08 (e : Int):Prop:=e=0∨e=8
theorem fits_e (p : P4) (k:Int):e08 (fitsR p k).2:=by
  unfold fitsR
  split
  · exact .inr rfl
  · exact .inl rfl
theorem add_e {x y : P4 × Int} (hx:checkF x.1 x.2=0) (hy:checkF y.1 y.2=0):e08 (AddR x y).2:=by
  rw[(Add_fits hx hy).1]
  exact fits_e _ _
theorem mul_e {x y : P4 × Int} (hx:checkF x.1 x.2=0) (hy:checkF y.1 y.2=0):e08 (MulR x y).2:=by
  rw[(Mul_fits hx hy).1]
  exact fits_e _ _
theorem norm_e {x : P4 × Int} (hx:checkF x.1 x.2=0):e08 (NormR x).2:=by
  unfold NormR
  rw[if_neg (by rw[← checkF_checkR,hx];simp)]
  exact fits_e _ _
theorem nstep_e {o x : P4 × Int} (ho:checkF o.1 o.2=0) (hx:checkF x.1 x.2=0):e08 (nstep o x).2:=by
  unfold nstep
  by_cases h:(NormR x).2 ≠ 0
  · rw[if_pos h];exact norm_e hx
  · rw[if_neg h]
    have:=norm_right (x:=x) (by simpa using h)
    exact add_e ho (by rw[checkF_checkR];exact this)
theorem normG_e : ∀ (v:Vec) (o:P4 × Int),checkF o.1 o.2=0→(∀ x∈v,checkF x.1 x.2=0)→e08 (normG o v).2∧((normG o v).2=0→checkF (normG o v).1.1 (normG o v).1.2=0)
  | [],o,ho,_=>⟨.inl rfl,fun _=>ho⟩
  | x::v,o,ho,hv=>by
    have hx:=hv x (List.mem_cons_self ..)
    unfold normG
    by_cases h:(nstep o x).2 ≠ 0
    · rw[if_pos h]
      exact⟨nstep_e ho hx,fun h2=>absurd h2 h⟩
    · rw[if_neg h]
      exact normG_e v _ (nstep_L (by simpa using h)).ok fun y hy=>hv y (List.mem_cons_of_mem _ hy)
theorem dotP_e (L : List Pr) (h:∀ p∈L,checkF p.1.1 p.1.2=0∧checkF p.2.1 p.2.2=0):e08 (dotP L).2:=by
  have key:∀ n,n≤L.length→e08 (dotP (L.take n)).2:=by
    intro n
    induction n with
    | zero=>intro _;exact .inl rfl
    | succ n ih=>
      intro hn
      have ihL:=ih (by omega)
      obtain⟨p1,p2⟩:=h L[n] (List.getElem_mem (by omega))
      rw[List.take_succ_eq_append_getElem (by omega),dotP_snoc]
      by_cases h0:(dotP (L.take n)).2=0
      · rw[if_pos h0]
        have hL:=dotP_L _ h0
        have hm:=mul_e p1 p2
        unfold dotStepR
        dsimp only
        by_cases hm0:(MulR L[n].1 L[n].2).2=0
        · rw[if_pos hm0]
          cases hi:(L.take n).isEmpty with
          | true=>
            simp only[if_true]
            rw[if_pos hm0]
            exact .inl rfl
          | false=>
            simp only[Bool.false_eq_true,if_false]
            have ha:=add_e hL.ok (Mul_L hm0).ok
            by_cases ha0:(AddR (dotP (L.take n)).1 (MulR L[n].1 L[n].2).1).2=0
            · rw[if_pos ha0];exact .inl rfl
            · rw[if_neg ha0];exact ha
        · rw[if_neg hm0,if_neg hm0]
          exact hm
      · rw[if_neg h0]
        exact ihL
  have:=key L.length (Nat.le_refl _)
  rwa [List.take_length] at this
theorem opM_right : ∀ k,k < 13→(opM k).all (fun r=>r.all fun x=>checkF x.1 x.2 == 0)=true:=by decide +kernel
theorem entry_rt {k : Nat} (hk:k < 13) (i c:Nat):checkF (entry (opM k) i c).1 (entry (opM k) i c).2=0:=by
  unfold entry
  by_cases hi:i < (opM k).length
  · have hr:=List.all_eq_true.1 (opM_right k hk) _ (List.getElem_mem hi)
    rw[List.getD_eq_getElem?_getD (l:=opM k),List.getElem?_eq_getElem hi]
    by_cases hc:c < (opM k)[i].length
    · have:=List.all_eq_true.1 hr _ (List.getElem_mem hc)
      rw[Option.getD_some,List.getD_eq_getElem?_getD,List.getElem?_eq_getElem hc]
      simpa using this
    · rw[Option.getD_some,List.getD_eq_getElem?_getD,List.getElem?_eq_none (by omega)]
      show checkF P4.zero 0=0
      decide
  · rw[List.getD_eq_getElem?_getD (l:=opM k),List.getElem?_eq_none (by omega)]
    show checkF P4.zero 0=0
    decide
theorem vAt_right {v : Vec} (h:∀ x∈v,checkF x.1 x.2=0) (b:Nat):checkF (vAt v b).1 (vAt v b).2=0:=by
  by_cases hb:b < v.length
  · exact h _ (vAt_mem hb)
  · unfold vAt
    rw[List.getD_eq_getElem?_getD,List.getElem?_eq_none (by omega)]
    decide
theorem done_e {v : Vec} {g:Gt} {n:Nat} (hg:GateOK g n) (hv:∀ x∈v,checkF x.1 x.2=0):e08 (doneG v g).2:=by
  have hk:=hg.k2
  have hr:∀ a,e08 (rowG v g a).2:=fun a=>by
    unfold rowG
    refine dotP_e _ fun p hp=>?_
    unfold rowL at hp
    obtain⟨c,_,rfl⟩:=List.mem_map.1 hp
    exact⟨entry_rt (k:=g.kind.toNat) (by omega) _ _,vAt_right hv _⟩
  unfold doneG rowsE
  have key:∀ l:List Int,(∀ e∈l,e08 e)→e08 (firstErr l):=by
    intro l
    induction l with
    | nil=>intro _;exact .inl rfl
    | cons e l ih=>
      intro h
      unfold firstErr
      split
      · exact ih fun x hx=>h x (List.mem_cons_of_mem _ hx)
      · exact h e (List.mem_cons_self ..)
  split
  · exact key _ fun e he=>by
      obtain⟨a,_,rfl⟩:=List.mem_map.1 he
      exact hr a
  · exact .inl rfl
theorem next_e {b : Br} {g:Gt} {o:Int} {n m i:Nat} (hg:RGate g n m) (hb:BrOK b n i):e08 (nextB b g o).2:=by
  by_cases hM:isM g=true
  · exact .inl (next_err hg hM hb)
  · have hM:isM g=false:=by simpa using hM
    unfold isM at hM
    have h13:¬ g.kind=13:=fun e=>by rw[e] at hM;simp at hM
    have h14:¬ g.kind=14:=fun e=>by rw[e] at hM;simp at hM
    unfold nextB
    rw[if_neg h13,if_neg h14]
    split
    · exact done_e (hg.plain h13 h14) hb.chk
    · exact .inl rfl
theorem run_e {n m : Nat}:∀ (gs:List Gt) (b:Br) (i:Nat),(∀ g∈gs,RGate g n m)→BrOK b n i→e08 (runB gs b).2
  | [],b,i,_,_=>by
    unfold runB
    split<;>exact .inl rfl
  | g::gs,b,i,hgs,hb=>by
    have hg:=hgs g (List.mem_cons_self ..)
    have hgs':∀ g∈gs,RGate g n m:=fun g' h=>hgs g' (List.mem_cons_of_mem _ h)
    have hs:∀ o,e08 (subR (runB gs) b g o).2:=fun o=>by
      unfold subR
      by_cases he:(nextB b g o).2 ≠ 0
      · rw[if_pos he];exact next_e hg hb
      rw[if_neg he]
      split
      · exact .inl rfl
      · exact run_e gs _ (i+1) hgs' (hb.next (by simpa using he))
    unfold runB
    split
    · by_cases he:(nextB b g 0).2 ≠ 0
      · rw[if_pos he];exact next_e hg hb
      · rw[if_neg he];exact run_e gs _ (i+1) hgs' (hb.next (by simpa using he))
    split
    · exact hs 0
    split
    · exact hs 1
    · exact .inl rfl
theorem ev_mem {n m : Nat}:∀ (gs:List Gt) (b:Br) (i:Nat),(∀ g∈gs,RGate g n m)→BrOK b n i→bitOK m b→∀ x∈(evG false (fun _=>[0,1]) gs b).1,bitOK m x∧x.state.length=2 ^ n∧∀ y∈x.state,IsL y
  | [],b,i,_,hb,hbit,x,hx=>by
    unfold evG at hx
    split at hx
    · cases hx
    · rw[List.mem_singleton] at hx
      rw[hx];exact⟨hbit,hb.len,hb.right⟩
  | g::gs,b,i,hgs,hb,hbit,x,hx=>by
    have hg:=hgs g (List.mem_cons_self ..)
    have hgs':∀ g∈gs,RGate g n m:=fun g' h=>hgs g' (List.mem_cons_of_mem _ h)
    unfold evG at hx
    by_cases hM:isM g=false
    · rw[if_pos hM] at hx
      by_cases he:(nextB b g 0).2 ≠ 0
      · rw[if_pos he] at hx;cases hx
      · rw[if_neg he] at hx
        exact ev_mem gs _ (i+1) hgs' (hb.next (by simpa using he)) (next_bit hg hbit (.inl rfl)) x hx
    rw[if_neg hM] at hx
    have hs:∀ o,(o=0∨o=1)→∀ x∈(subG false (evG false (fun _=>[0,1]) gs) b g o).1,bitOK m x∧x.state.length=2 ^ n∧∀ y∈x.state,IsL y:=fun o ho x hx=>by
      unfold subG at hx
      split at hx
      · cases hx
      · exact ev_mem gs _ (i+1) hgs' (hb.next (next_err hg (by simpa using hM) hb)) (next_bit hg hbit ho) x hx
    rw[evC_cons] at hx
    split at hx
    · exact hs 0 (.inl rfl) x hx
    · rw[evC_one] at hx
      rcases List.mem_append.1 hx with h | h
      · exact hs 0 (.inl rfl) x h
      · exact hs 1 (.inr rfl) x h
def bstep (acc : Vec) (b:Br):Vec × Int:=
  if (normG (P4.zero,0) b.state).2 ≠ 0 then ([],(normG (P4.zero,0) b.state).2)
  else if (AddR (vAt acc b.bits.toNat) (normG (P4.zero,0) b.state).1).2 ≠ 0 then ([],(AddR (vAt acc b.bits.toNat) (normG (P4.zero,0) b.state).1).2)
  else (acc.set b.bits.toNat (AddR (vAt acc b.bits.toNat) (normG (P4.zero,0) b.state).1).1,0)
def bitsF : Vec→List Br→Vec × Int
  | acc,[]=>(acc,0)
  | acc,b::l=>if (bstep acc b).2 ≠ 0 then ([],(bstep acc b).2) else bitsF (bstep acc b).1 l
theorem bitsF_at {l : List Br} {i:Nat} (hi:i < l.length) (acc:Vec):bitsF acc (l.drop i)=if (bstep acc l[i]).2 ≠ 0 then ([],(bstep acc l[i]).2) else bitsF (bstep acc l[i]).1 (l.drop (i+1)):=by
  rw[List.drop_eq_getElem_cons hi]
  rfl
theorem bitsF_bad : ∀ (l:List Br) (acc:Vec),(bitsF acc l).2 ≠ 0→(bitsF acc l).1=[]
  | [],acc,h=>absurd rfl h
  | b::l,acc,h=>by
    unfold bitsF at h ⊢
    by_cases hb:(bstep acc b).2 ≠ 0
    · rw[if_pos hb]
    · rw[if_neg hb] at h ⊢
      exact bitsF_bad l _ h
theorem bstep_e {acc : Vec} {b:Br} (ha:∀ x∈acc,IsL x) (hb:∀ x∈b.state,IsL x):e08 (bstep acc b).2∧((bstep acc b).2=0→∀ x∈(bstep acc b).1,IsL x):=by
  obtain⟨n1,n2⟩:=normG_e b.state (P4.zero,0) (by decide) fun x hx=>(hb x hx).ok
  unfold bstep
  by_cases h1:(normG (P4.zero,0) b.state).2 ≠ 0
  · rw[if_pos h1]
    exact⟨n1,fun h=>absurd h h1⟩
  rw[if_neg h1]
  have h1:(normG (P4.zero,0) b.state).2=0:=by simpa using h1
  have a1:=add_e (vAt_right (fun x hx=>(ha x hx).ok) b.bits.toNat) (n2 h1)
  by_cases h2:(AddR (vAt acc b.bits.toNat) (normG (P4.zero,0) b.state).1).2 ≠ 0
  · rw[if_pos h2]
    exact⟨a1,fun h=>absurd h h2⟩
  rw[if_neg h2]
  refine⟨.inl rfl,fun _ x hx=>?_⟩
  rcases List.mem_or_eq_of_mem_set hx with h | h
  · exact ha x h
  · rw[h]
    exact Add_L (by simpa using h2)
theorem bits_e : ∀ (l:List Br) (acc:Vec),(∀ x∈acc,IsL x)→(∀ b∈l,∀ x∈b.state,IsL x)→e08 (bitsF acc l).2
  | [],_,_,_=>.inl rfl
  | b::l,acc,ha,hl=>by
    obtain⟨h1,h2⟩:=bstep_e (acc:=acc) ha (hl b (List.mem_cons_self ..))
    unfold bitsF
    by_cases hb:(bstep acc b).2 ≠ 0
    · rw[if_pos hb];exact h1
    · rw[if_neg hb]
      exact bits_e l _ (h2 (by simpa using hb)) fun b' h=>hl b' (List.mem_cons_of_mem _ h)
def bitsR (c : Ct) (v:Vec):Vec × Int:=if (runR c v).2 ≠ 0 then ([],(runR c v).2) else bitsF (zeros (2 ^ c.bits.toNat)) (runR c v).1
def bitsE (E : List Br × Int) (m:Nat):Vec × Int:=if (bitsF (zeros (2 ^ m)) E.1).2 ≠ 0 then ([],(bitsF (zeros (2 ^ m)) E.1).2) else if E.2 ≠ 0 then ([],E.2) else bitsF (zeros (2 ^ m)) E.1
theorem zeros_L (n : Nat):∀ x∈zeros n,IsL x:=fun x hx=>by
  rw[List.eq_of_mem_replicate hx]
  exact zero_L
theorem RunOK.startBit {c : Ct} {v:Vec} {n m:Nat} (_:RunOK c v n m):bitOK m (startB v):=⟨Int.le_refl _,by have:=Nat.pow_pos (a:=2) (n:=m) (by decide);show (0:Int) < _;omega⟩
theorem bits_same {c : Ct} {v:Vec} {n m:Nat} (he:beginErr c v=0) (h:RunOK c v n m):bitsE (runE c v) m=bitsR c v:=by
  obtain⟨e1,e2,e3⟩:=runE_eq he h
  have hm:c.bits.toNat=m:=by have:=h.bits;omega
  have hmem:=ev_mem c.gates (startB v) 0 h.gates h.start h.startBit
  have hb:=bits_e (runE c v).1 (zeros (2 ^ m)) (zeros_L _) fun b hb x hx=>(hmem b hb).2.2 x hx
  have hr:e08 (runR c v).2:=by
    rw[show runR c v=runB c.gates (startB v) from if_neg (by rw[he];simp)]
    exact run_e c.gates (startB v) 0 h.gates h.start
  unfold bitsE bitsR
  rw[hm]
  by_cases h0:(runR c v).2 ≠ 0
  · rw[if_pos h0]
    have h8:(runR c v).2=8:=hr.resolve_left h0
    by_cases hb0:(bitsF (zeros (2 ^ m)) (runE c v).1).2 ≠ 0
    · rw[if_pos hb0,hb.resolve_left hb0,h8]
    · rw[if_neg hb0,e1,if_pos h0]
  · rw[if_neg h0]
    have h0':(runR c v).2=0:=by simpa using h0
    rw[← e2 h0',e1,if_neg h0]
    by_cases hb0:(bitsF (zeros (2 ^ m)) (runE c v).1).2 ≠ 0
    · rw[if_pos hb0]
      exact Prod.ext (bitsF_bad _ _ hb0).symm rfl
    · rw[if_neg hb0]
theorem st_ok {v : Vec} {n:Nat} (hn:n≤6) (hl:v.length=2 ^ n) (hL:∀ x∈v,IsL x):stErr v=0:=by
  unfold stErr
  rw[hl,size_at n (by omega),if_neg (by omega)]
  unfold errsR
  exact firstErr_all fun e he=>by
    obtain⟨x,hx,rfl⟩:=List.mem_map.1 he
    rw[← checkF_checkR]
    exact (hL x hx).ok
end Go.Proofs.YtmhnalikebkhjaaGreatDoor

namespace Go.Proofs.YtmhnalikebkhjaaGreatDoor
open Go.Proofs.YtmhnalikebkhjaaGreatDoor.X Go.Proofs.YtmhnalikebkhjaaGreatDoor.X.PH
set_option maxRecDepth 100000
theorem cellsN_at {l : Vec} {i:Nat} (hi:i < l.length):((cellsN l).drop (0+i*5)).take 5=cellsOf l[i]:=by
  have h:=flat_at (sz:=5) (cs:=l.map cellsOf) (fun c hc=>by obtain⟨x,_,rfl⟩:=List.mem_map.1 hc;rfl) (i:=i) (by simpa using hi)
  rw[Nat.zero_add]
  exact h.trans (by simp)
theorem run_begin {c : Ct} {v:Vec} (h:(runR c v).2=0):beginErr c v=0:=by
  unfold runR at h
  by_cases hb:beginErr c v ≠ 0
  · rw[if_pos hb] at h;exact absurd h hb
  · simpa using hb
def bufO (b : Nat) (acc:Vec):PH:=ins emp b (.cells ⟨cellsN acc⟩ 32 (0,0))
set_option maxHeartbeats 4000000 in
theorem d15o (c : Ct) (v:Vec) (hfit:c.fit) (hv:v.length≤100000) (H:PH) (x y:Value) (hx:CircH H x c) (hy:NumH H y v):Cl Tryz.prog 15 [x,y] H emp fun r _ M'=>OutVO M' r (bitsR c v):=by
  obtain⟨gb,gc,rfl,hg⟩:=hx.sl
  obtain⟨yb,yc,rfl,_⟩:=id hy
  refine Cl_of (pol:=polL) Γok Tryz.func15 (by kernel_rfl) rfl ?_
  conv=>whnf
  intro b2
  conv=>whnf
  refine (d13 c v hfit hv _ _ _ ⟨_,rfl,hg⟩ hy).use fun r Ha sa hr=>?_
  obtain⟨_,u,rfl,cs,hcs,hbs⟩:=hr
  obtain⟨ub,uc,rfl⟩:=hcs.sl
  conv=>whnf
  refine if_intro (fun h=>?_) (fun h=>?_)
  · conv=>whnf
    rw[show bitsR c v=([],(runR c v).2) from if_pos (neq_of h)]
    exact OutVO.bad
  have h0:(runR c v).2=0:=eq_of_neq h
  have he:=run_begin h0
  obtain⟨n,m,hok⟩:=run_ok he
  have hR:bitsR c v=bitsF (zeros (2 ^ m)) (runR c v).1:=by
    unfold bitsR
    rw[if_neg (by rw[h0];simp),hok.bits,Int.toNat_natCast]
  rw[hR]
  have hmem:∀ b∈(runR c v).1,bitOK m b∧b.state.length=2 ^ n∧∀ y∈b.state,IsL y:=by
    rw[← (runE_eq he hok).2.1 h0]
    exact ev_mem c.gates (startB v) 0 hok.gates hok.start hok.startBit
  have hlenR:(runR c v).1.length≤256:=by
    rw[← (runE_eq he hok).2.1 h0]
    exact Nat.le_trans (evG_len c.gates (startB v)) (Nat.pow_le_pow_right (n:=2) (by decide) hok.few)
  have m8:=hok.m8
  have hbits:=hok.bits
  obtain⟨p1,p2⟩:=pow6 hok.n6
  have hm1:2 ^ m≤256:=Nat.pow_le_pow_right (n:=2) (by decide) m8
  generalize runR c v=R at hcs hbs hmem hlenR h0
  have hcs0:cs.length=R.1.length:=hbs.1
  obtain⟨s,hs⟩:∃ s,s=2 ^ m:=⟨_,rfl⟩
  conv=>whnf
  refine dec_intro (by omega) ?_
  rw[hbits]
  conv=>whnf
  rw[shl_nat (by omega),← hs]
  rw[← hs] at hm1
  conv=>whnf
  refine dec_intro (Int.le_refl _) ?_
  conv=>whnf
  refine dec_intro (by omega) ?_
  conv=>whnf
  refine dec_intro (by omega) ?_
  conv=>whnf
  intro b8 hb8 hO8
  rw[show (List.replicate (s:Int).toNat _).flatten=cellsN (zeros s) from zeros_flat s]
  conv=>whnf
  refine W_loop (pol:=polL) Γok (Nat × PH × Vec) (fun i=>i.1≤R.1.length∧Sub Ha i.2.1∧i.2.2.length=s∧bitsF (zeros s) R.1=bitsF i.2.2 (R.1.drop i.1)) (fun i=>R.1.length - i.1) (fun i=>[(9,.v (.int .i64 i.1))]) (fun _=>[]) (fun i=>i.2.1) (fun i=>bufO b8 i.2.2) ⟨(0,Ha,zeros s),⟨by simp,Sub.refl _,by simp[zeros],by rw[List.drop_zero]⟩,rfl,rfl,?_⟩ ?_
  · conv=>whnf
    repeat (refine⟨rfl,?_⟩;conv=>whnf)
    exact trivial
  rintro ⟨i,Hi,acc⟩ ⟨h1i,hsi,hli,hpi⟩
  dsimp only at h1i hsi hli hpi
  conv=>whnf
  refine if_intro (fun hci=>?_) (fun hci=>?_)
  · have hii:i < R.1.length:=by
      have:=of_decide_eq_true hci
      rw[hcs0] at this
      omega
    obtain⟨⟨bit0,bit1⟩,hsl,hsL⟩:=hmem _ (List.getElem_mem hii)
    rw[bitsF_at hii] at hpi
    obtain⟨rb,roff,rfl,hrd⟩:=hcs.rd (i:=i) (by rw[hcs0];exact hii)
    obtain⟨ov,sv,ec,hov,hsv⟩:=hbs.2 i _ _ (List.getElem?_eq_getElem hii) (List.getElem?_eq_getElem (by rw[hcs0];exact hii))
    rw[ec] at hrd
    obtain⟨svb,svc,rfl,_⟩:=id hsv
    have hst:=st_ok hok.n6 hsl hsL
    conv=>whnf
    refine dec_intro (by omega) ?_
    conv=>whnf
    refine⟨_,Rd_part (hrd Hi _ hsi) 2 1 (by omega) rfl,?_⟩
    conv=>whnf
    refine (d42 R.1[i].state (by rw[hsl];omega) _ _ (NumH.up hsv hsi)).val fun Hb sb=>?_
    rw[show NormV R.1[i].state=normG (P4.zero,0) R.1[i].state from if_neg (by rw[hst];simp)]
    generalize hN:normG (P4.zero,0) R.1[i].state=N
    obtain⟨⟨⟨xa,xb,xc,xd⟩,xk⟩,xe⟩:=N
    conv=>whnf
    intro b10
    conv=>whnf
    refine if_intro (fun hx=>?_) (fun hx=>?_)
    · have hx0:xe=0:=eq_of_beq hx
      subst hx0
      refine W_draw (pol:=polL) Γok mixes [(0,.pend),(1,.pend),(2,.pend),(3,.pend),(4,.pend),(5,.pend),(6,.pendO),(7,.pendO),(8,.pendO),(9,.pendO),(10,.pendO),(11,.pendO),(12,.pendO),(13,.pendO),(14,.pendO),(15,.lock),(16,.pendO),(17,.pendO),(18,.pendH),(19,.pendO),(20,.lock),(21,.pendO)] 66 (by kernel_rfl) rfl ?_
      conv=>whnf
      refine dec_intro (by omega) ?_
      conv=>whnf
      refine⟨_,Rd_part (hrd Hb _ (hsi.trans sb)) 1 1 (by omega) rfl,?_⟩
      conv=>whnf
      refine dec_intro (by omega) ?_
      conv=>whnf
      refine⟨_,Rd_part (hrd Hb _ (hsi.trans sb)) 1 1 (by omega) rfl,?_⟩
      conv=>whnf
      refine dec_intro bit0 ?_
      conv=>whnf
      refine dec_intro (by omega) ?_
      conv=>whnf
      have hbl:R.1[i].bits.toNat < acc.length:=by omega
      have hst0:bstep acc R.1[i]=if (AddR (acc[R.1[i].bits.toNat]) ((⟨xa,xb,xc,xd⟩:P4),xk)).2 ≠ 0 then ([],(AddR (acc[R.1[i].bits.toNat]) ((⟨xa,xb,xc,xd⟩:P4),xk)).2) else (acc.set R.1[i].bits.toNat (AddR (acc[R.1[i].bits.toNat]) ((⟨xa,xb,xc,xd⟩:P4),xk)).1,0):=by
        unfold bstep
        rw[hN,if_neg (by simp),show vAt acc R.1[i].bits.toNat=acc[R.1[i].bits.toNat] by simp[vAt,List.getD_eq_getElem?_getD,hbl]]
      refine⟨cellsOf acc[R.1[i].bits.toNat],⟨rfl,rfl,_,_,_,.inr (ins_same _ _ _),cellsN_at hbl⟩,?_⟩
      conv=>whnf
      refine (c105 acc[R.1[i].bits.toNat] ((⟨xa,xb,xc,xd⟩:P4),xk) _).val fun Hc sc=>?_
      generalize AddR (acc[R.1[i].bits.toNat]) ((⟨xa,xb,xc,xd⟩:P4),xk)=A at hst0 ⊢
      obtain⟨⟨⟨ya,yb',yc',yd⟩,yk⟩,ye⟩:=A
      conv=>whnf
      refine dec_intro bit0 ?_
      conv=>whnf
      refine dec_intro (by omega) ?_
      conv=>whnf
      refine⟨_,_,ins_same _ _ _,?_,?_⟩
      · show 0+R.1[i].bits.toNat*5+5≤(cellsN acc).length
        rw[cellsN_length]
        omega
      conv=>whnf
      unfold bufO
      rw[ins_ins]
      have hset:(cellsN acc).take (0+R.1[i].bits.toNat*5)++[Value.int .i64 ya,.int .i64 yb',.int .i64 yc',.int .i64 yd,.int .i64 yk]++(cellsN acc).drop (0+R.1[i].bits.toNat*5+([Value.int .i64 ya,.int .i64 yb',.int .i64 yc',.int .i64 yd,.int .i64 yk]).length)=cellsN (acc.set R.1[i].bits.toNat ((⟨ya,yb',yc',yd⟩:P4),yk)):=cellsN_set acc _ ((⟨ya,yb',yc',yd⟩:P4),yk) hbl
      rw[hset]
      refine if_intro (fun hx=>?_) (fun hx=>?_)
      · have hy0:ye ≠ 0:=neq_of hx
        conv=>whnf
        rw[if_pos (show ((((⟨ya,yb',yc',yd⟩:P4),yk),ye):(P4 × Int) × Int).2 ≠ 0 from hy0)] at hst0
        rw[hpi,hst0,if_pos hy0]
        exact OutVO.bad
      · have hy0:ye=0:=eq_of_neq hx
        subst hy0
        rw[if_neg (by simp)] at hst0
        rw[hst0,if_neg (by simp)] at hpi
        conv=>whnf
        refine⟨(i+1,Hc,acc.set R.1[i].bits.toNat ((⟨ya,yb',yc',yd⟩:P4),yk)),⟨hii,(hsi.trans sb).trans sc,by rw[List.length_set];exact hli,hpi⟩,by dsimp only;omega,?_⟩
        refine⟨rfl,rfl,?_⟩
        conv=>whnf
        repeat (refine⟨rfl,?_⟩;conv=>whnf)
        refine⟨by show En.v (.int .i64 (IntKind.i64.wrap (i+1)))=_;rw[wrap_id (by omega) (by omega)]<;>rfl,?_⟩
        conv=>whnf
        repeat (refine⟨rfl,?_⟩;conv=>whnf)
        exact trivial
    · have hx0:xe ≠ 0:=ne_of_beq_false hx
      have hst0:bstep acc R.1[i]=([],xe):=by
        unfold bstep
        rw[hN,if_pos hx0]
      rw[hst0,if_pos hx0] at hpi
      conv=>whnf
      refine if_intro (fun hx=>?_) (fun hx=>?_)
      · conv=>whnf
        rw[hpi]
        exact OutVO.bad
      · exact absurd (eq_of_neq hx) hx0
  have hii:i=R.1.length:=by
    have:=of_decide_eq_false hci
    omega
  subst hii
  rw[List.drop_length] at hpi
  conv=>whnf
  rw[hpi]
  exact⟨_,rfl,vec_own' (ins_same _ _ _) hli.symm⟩
end Go.Proofs.YtmhnalikebkhjaaGreatDoor

namespace Go.Proofs.YtmhnalikebkhjaaGreatDoor
open Go.Proofs.YtmhnalikebkhjaaGreatDoor.X Go.Proofs.YtmhnalikebkhjaaGreatDoor.X.PH
set_option maxRecDepth 100000
theorem ins_swap {O : PH} {a b:Nat} {x y:Obj} (h:a ≠ b):ins (ins O a x) b y=ins (ins O b y) a x:=by
  funext n
  by_cases ha:n=a
  · subst ha
    rw[ins_ne _ _ h,ins_same,ins_same]
  · rw[ins_ne (ins O b y) _ ha]
    by_cases hb:n=b
    · subst hb;rw[ins_same,ins_same]
    · rw[ins_ne _ _ hb,ins_ne _ _ ha,ins_ne _ _ hb]
theorem d15 (c : Ct) (v:Vec) (hfit:c.fit) (hv:v.length≤100000) (H:PH) (x y:Value) (hx:CircH H x c) (hy:NumH H y v):Cl Tryz.prog 15 [x,y] H emp fun r H' _=>OutVH H' r (bitsR c v):=Cl.outV (d15o c v hfit hv H x y hx hy)
set_option maxHeartbeats 4000000 in
theorem d18o (c : Ct) (v:Vec) (gs:Value) (hfit:c.fit) (hv:v.length≤100000) (H:PH) (y:Value) (hx:GatesH H gs c.gates) (hy:NumH H y v):Cl Tryz.prog 18 [cv c gs,y] H emp fun r _ M'=>OutVO M' r (bitsR c v):=by
  have hg:=hx
  obtain⟨gb,gc,rfl⟩:=hx.sl
  obtain⟨yb,yc,rfl,_⟩:=id hy
  refine Cl_of (pol:=(fun | 54=>.imm | _=>.loc)) Γok Tryz.func18 (by kernel_rfl) rfl ?_
  conv=>whnf
  intro b2
  conv=>whnf
  intro b4
  conv=>whnf
  intro b5
  conv=>whnf
  refine (d61 c v (.slice gb c.gates.length gc) hfit hv _ _ hg hy).mono fun r Ha Ma sa hr=>?_
  rcases hr with⟨he,rfl⟩ | ⟨he,bm,hbm,rfl⟩
  · conv=>whnf
    intro b6
    conv=>whnf
    refine if_intro (fun h=>?_) (fun h=>?_)
    · conv=>whnf
      rw[show bitsR c v=([],beginErr c v) by
        have e:runR c v=([],beginErr c v):=if_pos he
        unfold bitsR
        rw[e,if_pos he]]
      exact OutVO.bad
    · exact absurd (eq_of_neq h) he
  obtain⟨n,m,hok⟩:=run_ok he
  have m8:=hok.m8
  have hbits:=hok.bits
  obtain⟨p1,p2⟩:=pow6 hok.n6
  have hm1:2 ^ m≤256:=Nat.pow_le_pow_right (n:=2) (by decide) m8
  have hmem:=ev_mem c.gates (startB v) 0 hok.gates hok.start hok.startBit
  have hsame:=bits_same he hok
  conv=>whnf
  intro b6
  conv=>whnf
  refine dec_intro (by omega) ?_
  rw[hbits]
  conv=>whnf
  obtain⟨s,hs⟩:∃ s,s=2 ^ m:=⟨_,rfl⟩
  rw[shl_nat (by omega),← hs]
  rw[← hs] at hm1
  conv=>whnf
  refine dec_intro (Int.le_refl _) ?_
  conv=>whnf
  refine dec_intro (by omega) ?_
  conv=>whnf
  refine dec_intro (by omega) ?_
  conv=>whnf
  intro bb hbb hObb
  rw[show (List.replicate (s:Int).toNat _).flatten=cellsN (zeros s) from zeros_flat s]
  conv=>whnf
  intro b9
  conv=>whnf
  refine (Cl.args (by rw[← hbits]<;>rfl) (d62n c n m v hok (.slice gb c.gates.length gc) (.slice yb v.length yc) 102 [] bm false (fun _=>[0,1]) (fun k _=>⟨by simp,by simp⟩) _ (NumH.up hy sa) (hg.up sa) (fun lp os h _=>cho01 _ lp os h))).use fun it Hb sb hit=>?_
  obtain⟨_,hit⟩:=hit
  conv=>whnf
  have hit:IterN Tryz.prog bm OpsI Hb it (ysOf (runE c v)) BrN:=hit
  have hbmb:bm ≠ bb:=fun e=>by rw[e] at hbm;rw[hbm] at hObb;cases hObb
  unfold runE at hsame
  have hmem:∀ b∈(runE c v).1,bitOK m b∧b.state.length=2 ^ n∧∀ y∈b.state,IsL y:=hmem
  generalize hE:runE c v=E at hit hmem
  have hsame:bitsE E m=bitsR c v:=by rw[← hE];exact hsame
  rw[← hsame]
  clear hE hsame
  refine W_rangeN (pol:=(fun | 54=>.imm | _=>.loc)) Γok (ysOf E) BrN hit (PH × PH × Vec × Int)
    (fun k i H'=>i.2.2.2=0∧k≤E.1.length∧Sub Hb i.1∧(∃ o,i.2.1 bm=some o∧OpsI H' o)∧i.2.1 bb=some (.cells ⟨cellsN i.2.2.1⟩ 32 (0,0))∧i.2.2.1.length=s∧(∀ x∈i.2.2.1,IsL x)∧bitsF (zeros s) E.1=bitsF i.2.2.1 (E.1.drop k))
    (fun x i _=>x=.ret∧bitsE E m=([],i.2.2.2)∧i.2.2.2 ≠ 0)
    (fun i=>[(1,[.slice none 0 0]),(2,[.int .i64 i.2.2.2])]) (fun i=>i.2.1) (fun i=>i.1) ?_ ?_ ?_ ?_ ⟨(Hb,_,zeros s,0),⟨rfl,Nat.zero_le _,Sub.refl _,⟨_,(ins_ne _ _ hbmb).trans hbm,OpsI.nil _⟩,ins_same _ _ _,by simp[zeros],zeros_L s,by rw[List.drop_zero]⟩,rfl,rfl,?_⟩ ?_ ?_ ?_
  · rintro k i H1 H2 hs ⟨a1,a2,a3,⟨o,a4,a5⟩,a6⟩
    exact⟨a1,a2,a3,⟨o,a4,a5.up hs⟩,a6⟩
  · rintro x i H1 H2 hs h
    exact h
  · rintro k i H' ⟨a1,a2,a3,a4,a5⟩
    exact a4
  · rintro k ⟨i1,i2,i3,i4⟩ H' o ⟨a1,a2,a3,⟨o',a4,a4'⟩,a5,a6⟩ ho
    exact⟨(i1,ins i2 bm o,i3,i4),⟨a1,a2,a3,⟨o,ins_same _ _ _,ho⟩,(ins_ne _ _ (Ne.symm hbmb)).trans a5,a6⟩,rfl,rfl,rfl⟩
  · conv=>whnf
    repeat (refine⟨rfl,?_⟩;conv=>whnf)
  · rintro k y hyk x ⟨i1,i2,acc,i4⟩ H' hs' ⟨a1,a2,a3,⟨om,a4,a4'⟩,a5,hli,haL,hpi⟩ hsp ⟨ov,sv,rfl,hov,hsv⟩ l o o' hl
    dsimp only at a1 a2 a3 a4 a5 hli haL hpi hsp hov hsv hl
    subst a1
    obtain⟨ovb,ovc,rfl,_⟩:=IntsW.c hov
    obtain⟨svb,svc,rfl,_⟩:=NumW.num hsv
    have hbl:bb ≠ l:=fun e=>by rw[e,hl] at a5;cases a5
    conv=>whnf
    intro b10
    conv=>whnf
    refine⟨rfl,?_⟩
    conv=>whnf
    refine⟨i2,rfl,?_⟩
    conv=>whnf
    refine if_intro (fun h=>?_) (fun h=>?_)
    · have hy2:y.2 ≠ 0:=neq_of h
      rcases ys_at hyk with⟨hk,rfl⟩ | ⟨hk,h2,rfl⟩
      · exact absurd rfl hy2
      have hbe:bitsE E m=([],E.2):=by
        subst hk
        rw[List.drop_length] at hpi
        unfold bitsE
        rw[← hs,hpi]
        show (if (0:Int) ≠ 0 then _ else _)=_
        rw[if_neg (by simp),if_pos h2]
      conv=>whnf
      refine⟨(i1,i2,acc,E.2),.inr ⟨⟨rfl,hbe,h2⟩,rfl⟩,hl,rfl,?_⟩
      conv=>whnf
      repeat (refine⟨rfl,?_⟩;conv=>whnf)
      exact trivial
    have hy2:y.2=0:=eq_of_neq h
    rcases ys_at hyk with⟨hk,rfl⟩ | ⟨hk,h2,rfl⟩
    rotate_left
    · exact absurd hy2 h2
    obtain⟨⟨bit0,bit1⟩,hsl,hsL⟩:=hmem _ (List.getElem_mem hk)
    rw[← hs] at bit1
    rw[bitsF_at hk] at hpi
    have hbad:∀ e:Int,e ≠ 0→bstep acc E.1[k]=([],e)→bitsE E m=([],e):=fun e h0 hb=>by
      rw[hb,if_pos h0] at hpi
      unfold bitsE
      rw[← hs,hpi]
      exact if_pos h0
    conv=>whnf
    refine (d68 E.1[k].state (by rw[hsl];omega) _ _ (NumW.num hsv)).val fun Hc sc=>?_
    have hN2:=(normG_e E.1[k].state (P4.zero,0) (by decide) fun x hx=>(hsL x hx).ok).2
    generalize hN:normG (P4.zero,0) E.1[k].state=N at hN2 ⊢
    obtain⟨⟨⟨xa,xb,xc,xd⟩,xk⟩,xe⟩:=N
    conv=>whnf
    intro b12
    conv=>whnf
    refine if_intro (fun hx=>?_) (fun hx=>?_)
    · have hx0:xe=0:=eq_of_beq hx
      subst hx0
      refine W_draw (pol:=(fun | 54=>.imm | _=>.loc)) Γok mixes [(0,.pend),(1,.pend),(2,.pend),(3,.pendO),(4,.pendO),(5,.pendO),(6,.pendO),(7,.pendO),(8,.pendO),(9,.lock),(10,.lock),(11,.pendO),(12,.pendO),(13,.pendH),(14,.pendO),(15,.lock),(16,.pendO)] 63 (by kernel_rfl) rfl ?_
      conv=>whnf
      refine dec_intro bit0 ?_
      conv=>whnf
      refine dec_intro (by dsimp only;omega) ?_
      conv=>whnf
      have hbn:E.1[k].bits.toNat < acc.length:=by omega
      have hst0:bstep acc E.1[k]=if (AddR (acc[E.1[k].bits.toNat]) ((⟨xa,xb,xc,xd⟩:P4),xk)).2 ≠ 0 then ([],(AddR (acc[E.1[k].bits.toNat]) ((⟨xa,xb,xc,xd⟩:P4),xk)).2) else (acc.set E.1[k].bits.toNat (AddR (acc[E.1[k].bits.toNat]) ((⟨xa,xb,xc,xd⟩:P4),xk)).1,0):=by
        unfold bstep
        rw[hN,if_neg (by simp),show vAt acc E.1[k].bits.toNat=acc[E.1[k].bits.toNat] by simp[vAt,List.getD_eq_getElem?_getD,hbn]]
      have hL2:(bstep acc E.1[k]).2=0→∀ x∈(bstep acc E.1[k]).1,IsL x:=(bstep_e haL hsL).2
      have hsum:SumF [acc[E.1[k].bits.toNat],((⟨xa,xb,xc,xd⟩:P4),xk)]=AddR (acc[E.1[k].bits.toNat]) ((⟨xa,xb,xc,xd⟩:P4),xk):=sum_two (haL _ (List.getElem_mem hbn)) (by rw[← checkF_checkR];exact hN2 rfl)
      refine⟨cellsOf acc[E.1[k].bits.toNat],⟨rfl,rfl,_,_,_,.inr ((ins_ne _ _ hbl).trans a5),cellsN_at hbn⟩,?_⟩
      generalize hac:acc[E.1[k].bits.toNat]=ac at hst0 hsum ⊢
      obtain⟨⟨za,zb,zc,zd⟩,zk⟩:=ac
      conv=>whnf
      intro b54 hb54 hO54
      conv=>whnf
      refine (d69 [((⟨za,zb,zc,zd⟩:P4),zk),((⟨xa,xb,xc,xd⟩:P4),xk)] (by simp) _ _ (pair_num (ins_same _ _ _))).val fun Hd sd=>?_
      rw[hsum]
      have s54:=sub_ins Hc (.cells ⟨[.int .i64 za,.int .i64 zb,.int .i64 zc,.int .i64 zd,.int .i64 zk,.int .i64 xa,.int .i64 xb,.int .i64 xc,.int .i64 xd,.int .i64 xk]⟩ 32 (0,0)) hb54
      generalize AddR ((⟨za,zb,zc,zd⟩:P4),zk) ((⟨xa,xb,xc,xd⟩:P4),xk)=A at hst0 ⊢
      obtain⟨⟨⟨ya,yb',yc',yd⟩,yk⟩,ye⟩:=A
      conv=>whnf
      refine dec_intro bit0 ?_
      conv=>whnf
      refine dec_intro (by dsimp only;omega) ?_
      conv=>whnf
      refine⟨_,_,(ins_ne _ _ hbl).trans a5,?_,?_⟩
      · show 0+E.1[k].bits.toNat*5+5≤(cellsN acc).length
        rw[cellsN_length]
        omega
      conv=>whnf
      rw[ins_swap (Ne.symm hbl)]
      have hset:(cellsN acc).take (0+E.1[k].bits.toNat*5)++[Value.int .i64 ya,.int .i64 yb',.int .i64 yc',.int .i64 yd,.int .i64 yk]++(cellsN acc).drop (0+E.1[k].bits.toNat*5+([Value.int .i64 ya,.int .i64 yb',.int .i64 yc',.int .i64 yd,.int .i64 yk]).length)=cellsN (acc.set E.1[k].bits.toNat ((⟨ya,yb',yc',yd⟩:P4),yk)):=cellsN_set acc _ ((⟨ya,yb',yc',yd⟩:P4),yk) hbn
      rw[hset]
      refine if_intro (fun hx=>?_) (fun hx=>?_)
      · have hy0:ye ≠ 0:=neq_of hx
        conv=>whnf
        rw[if_pos (show ((((⟨ya,yb',yc',yd⟩:P4),yk),ye):(P4 × Int) × Int).2 ≠ 0 from hy0)] at hst0
        refine⟨(i1,ins i2 bb (.cells ⟨cellsN (acc.set E.1[k].bits.toNat ((⟨ya,yb',yc',yd⟩:P4),yk))⟩ 32 (0,0)),acc,ye),.inr ⟨⟨rfl,hbad ye hy0 hst0,hy0⟩,rfl⟩,(ins_ne _ _ (Ne.symm hbl)).trans hl,rfl,?_⟩
        conv=>whnf
        repeat (refine⟨rfl,?_⟩;conv=>whnf)
        exact trivial
      · have hy0:ye=0:=eq_of_neq hx
        subst hy0
        rw[if_neg (by simp)] at hst0
        rw[hst0] at hL2
        rw[hst0,if_neg (by simp)] at hpi
        conv=>whnf
        refine⟨(Hd,ins i2 bb (.cells ⟨cellsN (acc.set E.1[k].bits.toNat ((⟨ya,yb',yc',yd⟩:P4),yk))⟩ 32 (0,0)),acc.set E.1[k].bits.toNat ((⟨ya,yb',yc',yd⟩:P4),yk),0),.inl ⟨rfl,⟨rfl,hk,a3.trans (hsp.trans (sc.trans (s54.trans sd))),⟨om,(ins_ne _ _ hbmb).trans a4,a4'.up (sc.trans (s54.trans sd))⟩,ins_same _ _ _,by rw[List.length_set];exact hli,hL2 rfl,hpi⟩,rfl⟩,(ins_ne _ _ (Ne.symm hbl)).trans hl,rfl,?_⟩
        conv=>whnf
        repeat (refine⟨rfl,?_⟩;conv=>whnf)
        exact trivial
    · have hx0:xe ≠ 0:=ne_of_beq_false hx
      have hst0:bstep acc E.1[k]=([],xe):=by
        unfold bstep
        rw[hN,if_pos hx0]
      conv=>whnf
      refine if_intro (fun hx=>?_) (fun hx=>?_)
      · conv=>whnf
        refine⟨(i1,i2,acc,xe),.inr ⟨⟨rfl,hbad xe hx0 hst0,hx0⟩,rfl⟩,hl,rfl,?_⟩
        conv=>whnf
        repeat (refine⟨rfl,?_⟩;conv=>whnf)
        exact trivial
      · exact absurd (eq_of_neq hx) hx0
  · rintro ⟨i1,i2,acc,i4⟩ H' hs' ⟨a1,a2,a3,a4,a5,hli,haL,hpi⟩ hsp
    dsimp only at a1 a2 a3 a4 a5 hli haL hpi hsp
    subst a1
    have hE2:E.2=0:=by
      rw[ys_len] at a2
      by_cases h:E.2 ≠ 0
      · rw[if_pos h] at a2;omega
      · simpa using h
    have hlen:(ysOf E).length=E.1.length:=by rw[ys_len,if_neg (by rw[hE2];simp),Nat.add_zero]
    rw[hlen,List.drop_length] at hpi
    have hbe:bitsE E m=(acc,0):=by
      unfold bitsE
      rw[← hs,hpi]
      show (if (0:Int) ≠ 0 then _ else _)=_
      rw[if_neg (by simp),if_neg (by rw[hE2];simp)]
      rfl
    conv=>whnf
    rw[hbe]
    exact⟨_,rfl,vec_own' a5 hli.symm⟩
  · rintro x ⟨i1,i2,acc,i4⟩ H' hs' ⟨rfl,a1,a2⟩
    dsimp only at a1
    conv=>whnf
    rw[a1]
    exact OutVO.bad
theorem d18 (c : Ct) (v:Vec) (gs:Value) (hfit:c.fit) (hv:v.length≤100000) (H:PH) (y:Value) (hx:GatesH H gs c.gates) (hy:NumH H y v):Cl Tryz.prog 18 [cv c gs,y] H emp fun r H' _=>OutVH H' r (bitsR c v):=Cl.outV (d18o c v gs hfit hv H y hx hy)
end Go.Proofs.YtmhnalikebkhjaaGreatDoor

namespace Go.Proofs.YtmhnalikebkhjaaGreatDoor
open Go.Proofs.YtmhnalikebkhjaaGreatDoor.X Go.Proofs.YtmhnalikebkhjaaGreatDoor.X.PH
set_option maxRecDepth 100000
theorem d64 (x : Int) (H:PH):Cl Tryz.prog 64 [.int .i64 x] H emp fun r _ _=>r=.bool (is01 x):=by
  refine Cl_of (pol:=polL) Γok Tryz.func64 (by kernel_rfl) rfl ?_
  conv=>whnf
  refine if_intro (fun h=>?_) (fun h=>?_)
  · conv=>whnf
    unfold is01
    rw[show (x == 0)=true from h]
    rfl
  · conv=>whnf
    unfold is01
    rw[show (x == 0)=false from h]
    rfl
theorem addr_add (b off n : Nat):(⟨b,off,none⟩:Addr).add n=⟨b,off+n,none⟩:=by
  unfold Addr.add
  split
  · rename_i h;rw[h]<;>rfl
  · rfl
theorem d65 (l lp : List Int) (k:Nat) (hk:k < l.length) (hlp:lp.length=8) (hl:l.length≤100000) (H:PH) (b:Nat) (u:Value) (hb:∃ t fr,H b=some (.cells ⟨[u]⟩ t fr)) (hu:IntsC H u l):Cl Tryz.prog 65 [pv lp k,adr b] H emp fun r H' _=>IntsH H' r [l.getD k 0]:=by
  obtain⟨ub,uc,rfl,huc,hu2⟩:=hu
  obtain⟨t,fr,hb⟩:=hb
  obtain⟨a0,a1,a2,a3,a4,a5,a6,a7,rfl⟩:=eight hlp
  refine Cl_of (pol:=polL) Γok Tryz.func65 (by kernel_rfl) rfl ?_
  conv=>whnf
  intro b2
  conv=>whnf
  refine⟨_,Rd.anyO (O:=emp) ⟨rfl,rfl,_,_,_,.inl hb,rfl⟩,?_⟩
  conv=>whnf
  rw[wrap_id (n:=(k:Int)+1) (by omega) (by omega)]
  refine dec_intro (by omega) ?_
  conv=>whnf
  refine dec_intro (by omega) ?_
  conv=>whnf
  have e2:((k:Int)+1).toNat - k=1:=by omega
  rw[Int.toNat_natCast,e2,if_neg (by omega)]
  obtain⟨_,_,e,hu3⟩:=hu2
  cases e
  rcases hu3 with⟨h0,_⟩ | ⟨bu,off,cc,t',fr',rfl,h1,h2⟩
  · omega
  · refine⟨some ⟨bu,off+k*1,none⟩,uc - k,congrArg (fun x=>Value.slice (some x) 1 (uc - k)) (addr_add bu off (k*1)),.inr ⟨bu,off+k*1,cc,t',fr',rfl,h1,?_⟩⟩
    have h3:=congrArg (fun x:List Value=>(x.drop k).take 1) h2
    rw[List.drop_take,List.drop_drop,List.take_take,List.length_map] at h3
    rw[Nat.mul_one,List.length_map,List.length_singleton]
    have e3:min 1 (l.length - k)=1:=by omega
    rw[e3] at h3
    rw[h3,← List.map_drop,← List.map_take]
    congr 1
    rw[List.drop_eq_getElem_cons hk,List.getD_eq_getElem?_getD,List.getElem?_eq_getElem hk]
    rfl
theorem OutB.bad {H : PH} {e:Int}:OutB H (.tuple #[.agg ⟨[.slice none 0 0,.int .i64 0,.slice none 0 0]⟩,.int .i64 e]) (br0,e):=⟨_,rfl,_,_,rfl,IntsC.nil H,nilV H⟩
theorem d14 (c : Ct) (v:Vec) (l:List Int) (hfit:c.fit) (hv:v.length≤100000) (hl:l.length≤100000) (H:PH) (x y z:Value) (hx:CircH H x c) (hy:NumH H y v) (hz:IntsH H z l):Cl Tryz.prog 14 [x,y,z] H emp fun r H' _=>OutB H' r (alongR c v l):=by
  obtain⟨gb,gc,rfl,hg⟩:=hx.sl
  obtain⟨yb,yc,rfl,_⟩:=id hy
  obtain⟨zb,zc,rfl,_⟩:=id hz
  have hlen:=hfit.1
  refine Cl_of (pol:=polL) Γok Tryz.func14 (by kernel_rfl) rfl ?_
  conv=>whnf
  intro b3
  conv=>whnf
  intro b6
  conv=>whnf
  refine (d54 c v hfit (by omega) _ _ _ ⟨_,rfl,hg⟩ hy).val fun Ha sa=>?_
  conv=>whnf
  refine if_intro (fun h=>?_) (fun h=>?_)
  · conv=>whnf
    rw[show alongR c v l=(br0,beginErr c v) from if_pos (neq_of h)]
    exact OutB.bad
  have he:beginErr c v=0:=eq_of_neq h
  obtain⟨n,m,hok⟩:=run_ok he
  have n6:=hok.n6
  have m8:=hok.m8
  have hfew:=hok.few
  obtain⟨p1,p2⟩:=pow6 n6
  conv=>whnf
  refine (d57 c hfit _ _ ⟨_,rfl,hg.up sa⟩).val fun Hb sb=>?_
  replace sb:=sa.trans sb
  conv=>whnf
  refine if_intro (fun h=>?_) (fun h=>?_)
  · conv=>whnf
    rw[show alongR c v l=(br0,2) by
      unfold alongR
      rw[if_neg (by rw[he];simp),if_pos (fun e=>neq_of h (by rw[e]))]]
    exact OutB.bad
  have hll:l.length=foundN c.gates:=by
    have:=eq_of_neq h
    omega
  conv=>whnf
  refine W_loop (pol:=polL) Γok (Nat × PH) (fun i=>i.1≤l.length∧Sub Hb i.2∧(l.take i.1).all is01=true) (fun i=>l.length - i.1) (fun i=>[(9,.v (.int .i64 i.1))]) (fun _=>[]) (fun i=>i.2) (fun _=>emp) ⟨(0,Hb),⟨by simp,Sub.refl _,rfl⟩,rfl,rfl,?_⟩ ?_
  · conv=>whnf
    repeat (refine⟨rfl,?_⟩;conv=>whnf)
    exact trivial
  rintro ⟨i,Hi⟩ ⟨h1i,hsi,hpi⟩
  dsimp only at h1i hsi hpi
  conv=>whnf
  refine if_intro (fun hci=>?_) (fun hci=>?_)
  · have hii:i < l.length:=by
      have:=of_decide_eq_true hci
      omega
    have hall:is01 l[i]=false→alongR c v l=(br0,3):=fun h=>by
      unfold alongR
      rw[if_neg (by rw[he];simp),if_neg (by simpa using hll),if_pos]
      exact List.all_eq_false.2 ⟨l[i],List.getElem_mem hii,by rw[h];simp⟩
    obtain⟨ob,ooff,rfl,hro⟩:=(IntsH.up hz (sb.trans hsi)).rd hii
    conv=>whnf
    refine dec_intro (by omega) ?_
    conv=>whnf
    refine⟨_,hro _,?_⟩
    conv=>whnf
    refine if_intro (fun h1=>?_) (fun h1=>?_)
    · conv=>whnf
      have:l[i] < 0:=of_decide_eq_true h1
      rw[hall (by unfold is01;rw[beq_eq_false_iff_ne.2 (by omega),beq_eq_false_iff_ne.2 (by omega)]<;>rfl)]
      exact OutB.bad
    have h1:¬ l[i] < 0:=of_decide_eq_false h1
    conv=>whnf
    refine dec_intro (by omega) ?_
    conv=>whnf
    refine⟨_,hro _,?_⟩
    conv=>whnf
    refine if_intro (fun h2=>?_) (fun h2=>?_)
    · conv=>whnf
      have:l[i] > 1:=of_decide_eq_true h2
      rw[hall (by unfold is01;rw[beq_eq_false_iff_ne.2 (by omega),beq_eq_false_iff_ne.2 (by omega)]<;>rfl)]
      exact OutB.bad
    have h2:¬ l[i] > 1:=of_decide_eq_false h2
    conv=>whnf
    refine⟨(i+1,Hi),⟨hii,hsi,?_⟩,by dsimp only;omega,?_⟩
    · rw[List.take_succ_eq_append_getElem hii,List.all_append,hpi]
      have:l[i]=0∨l[i]=1:=by omega
      rcases this with e | e<;>rw[e]<;>rfl
    refine⟨rfl,rfl,?_⟩
    conv=>whnf
    repeat (refine⟨rfl,?_⟩;conv=>whnf)
    refine⟨by show En.v (.int .i64 (IntKind.i64.wrap (i+1)))=_;rw[wrap_id (by omega) (by omega)]<;>rfl,?_⟩
    conv=>whnf
    repeat (refine⟨rfl,?_⟩;conv=>whnf)
    exact trivial
  have hii:i=l.length:=by
    have:=of_decide_eq_false hci
    omega
  subst hii
  rw[List.take_length] at hpi
  replace hsi:=sb.trans hsi
  have hA:alongR c v l=if (stepsB l c.gates (startB v)).2 ≠ 0 then (br0,(stepsB l c.gates (startB v)).2)
    else if deadB (stepsB l c.gates (startB v)).1.state=true then (br0,6) else ((stepsB l c.gates (startB v)).1,0):=by
    unfold alongR
    rw[if_neg (by rw[he];simp),if_neg (by simpa using hll),if_neg (by rw[hpi];simp)]
  rw[hA]
  conv=>whnf
  refine (d56 v hv hok.right _ _ (NumH.up hy hsi)).use fun r Hc sc hr=>?_
  obtain⟨_,hr⟩:=hr
  obtain⟨rb,rc,rfl,_⟩:=id hr
  replace sc:=hsi.trans sc
  conv=>whnf
  intro b10
  conv=>whnf
  refine W_loop (pol:=polL) Γok (Nat × PH × Br × Value × Value) (fun i=>i.1≤c.gates.length∧Sub Hc i.2.1∧BrOK i.2.2.1 n i.1∧IntsC i.2.1 i.2.2.2.1 i.2.2.1.outs∧NumH i.2.1 i.2.2.2.2 i.2.2.1.state∧stepsB l c.gates (startB v)=stepsB l (c.gates.drop i.1) i.2.2.1) (fun i=>c.gates.length - i.1) (fun i=>[(11,.v (.int .i64 i.1))]) (fun i=>[(2,[i.2.2.2.1,.int .i64 i.2.2.1.bits,i.2.2.2.2])]) (fun i=>i.2.1) (fun _=>emp) ⟨(0,Hc,startB v,.slice none 0 0,.slice rb (leastV v).length rc),⟨Nat.zero_le _,Sub.refl _,hok.start,IntsC.nil _,hr,by rw[List.drop_zero]⟩,rfl,rfl,?_⟩ ?_
  · conv=>whnf
    repeat (refine⟨rfl,?_⟩;conv=>whnf)
    exact trivial
  rintro ⟨i,Hi,bi,ov,sv⟩ ⟨h1i,hsi2,hbi,hov,hsv,hst⟩
  dsimp only at h1i hsi2 hbi hov hsv hst
  obtain⟨ovb,ovc,rfl,hovc,hov2⟩:=id hov
  obtain⟨svb,svc,rfl,_⟩:=id hsv
  have hgl:c.gates.length≤120:=hok.len
  have hbo:=hbi.outs
  conv=>whnf
  refine if_intro (fun hci=>?_) (fun hci=>?_)
  · have hii:i < c.gates.length:=by
      have:=of_decide_eq_true hci
      omega
    have hg1:=hok.gates _ (List.getElem_mem hii)
    rw[stepsB_at hii] at hst
    obtain⟨gbb,goff,w,wb,wc,rfl,hw,hrd,hwe⟩:=(hg.up sc).rd hii
    subst hw
    conv=>whnf
    refine if_intro (fun hk=>?_) (fun hk=>?_)
    · have hkk:bi.outs.length < l.length:=by
        have:=of_decide_eq_true hk
        omega
      obtain⟨ob,ooff,rfl,hro⟩:=(IntsH.up hz (sc.trans hsi2)).rd hkk
      have eo:l.getD bi.outs.length 0=l[bi.outs.length]:=by rw[List.getD_eq_getElem?_getD,List.getElem?_eq_getElem hkk]<;>rfl
      have ho01:l[bi.outs.length]=0∨l[bi.outs.length]=1:=by
        have:=List.all_eq_true.1 hpi _ (List.getElem_mem hkk)
        unfold is01 at this
        simpa using this
      rw[eo] at hst
      conv=>whnf
      refine dec_intro (by omega) ?_
      conv=>whnf
      refine⟨_,hro _,?_⟩
      conv=>whnf
      refine W_draw (pol:=polL) Γok mixes [(0,.pendO),(1,.pendO),(2,.pendO),(3,.pendO),(4,.pendO),(5,.pendO),(6,.pendO),(7,.lock),(8,.pendO),(9,.pendO),(10,.pendH),(11,.late),(12,.lock),(13,.pendO)] 90 (by kernel_rfl) rfl ?_
      conv=>whnf
      refine dec_intro (by omega) ?_
      conv=>whnf
      refine⟨_,hrd _ _ hsi2,?_⟩
      conv=>whnf
      refine (d58 bi c.gates[i] l[bi.outs.length] n m hg1 ho01 hbi.len hbi.chk (by omega) _ _ _ ⟨_,_,rfl,hov,hsv⟩ (hwe.up hsi2)).use fun r Hd sd hr2=>?_
      obtain⟨_,u,rfl,ov2,sv2,rfl,hov2,hsv2⟩:=hr2
      obtain⟨ov2b,ov2c,rfl,_⟩:=id hov2
      obtain⟨sv2b,sv2c,rfl,_⟩:=id hsv2
      conv=>whnf
      intro b14
      conv=>whnf
      refine if_intro (fun h=>?_) (fun h=>?_)
      · conv=>whnf
        rw[hst,if_pos (neq_of h),if_pos (neq_of h)]
        exact OutB.bad
      have hne:(nextB bi c.gates[i] l[bi.outs.length]).2=0:=eq_of_neq h
      rw[if_neg (by rw[hne];simp)] at hst
      conv=>whnf
      refine⟨(i+1,Hd,(nextB bi c.gates[i] l[bi.outs.length]).1,_,_),⟨hii,hsi2.trans sd,hbi.next hne,hov2,hsv2,hst⟩,by dsimp only;omega,?_⟩
      refine⟨rfl,rfl,?_⟩
      conv=>whnf
      repeat (refine⟨rfl,?_⟩;conv=>whnf)
      refine⟨by show En.v (.int .i64 (IntKind.i64.wrap (i+1)))=_;rw[wrap_id (by omega) (by omega)]<;>rfl,?_⟩
      conv=>whnf
      repeat (refine⟨rfl,?_⟩;conv=>whnf)
      exact trivial
    · have hkk:¬ bi.outs.length < l.length:=by
        have:=of_decide_eq_false hk
        omega
      have eo:l.getD bi.outs.length 0=0:=by rw[List.getD_eq_getElem?_getD,List.getElem?_eq_none (by omega)]<;>rfl
      rw[eo] at hst
      have ho01:(0:Int)=0∨(0:Int)=1:=.inl rfl
      conv=>whnf
      refine W_draw (pol:=polL) Γok mixes [(0,.pendO),(1,.pendO),(2,.pendO),(3,.pendO),(4,.pendO),(5,.pendO),(6,.pendO),(7,.lock),(8,.pendO),(9,.pendO),(10,.pendH),(11,.late),(12,.lock),(13,.pendO)] 90 (by kernel_rfl) rfl ?_
      conv=>whnf
      refine dec_intro (by omega) ?_
      conv=>whnf
      refine⟨_,hrd _ _ hsi2,?_⟩
      conv=>whnf
      refine (d58 bi c.gates[i] 0 n m hg1 ho01 hbi.len hbi.chk (by omega) _ _ _ ⟨_,_,rfl,hov,hsv⟩ (hwe.up hsi2)).use fun r Hd sd hr2=>?_
      obtain⟨_,u,rfl,ov2,sv2,rfl,hov2,hsv2⟩:=hr2
      obtain⟨ov2b,ov2c,rfl,_⟩:=id hov2
      obtain⟨sv2b,sv2c,rfl,_⟩:=id hsv2
      conv=>whnf
      intro b14
      conv=>whnf
      refine if_intro (fun h=>?_) (fun h=>?_)
      · conv=>whnf
        rw[hst,if_pos (neq_of h),if_pos (neq_of h)]
        exact OutB.bad
      have hne:(nextB bi c.gates[i] 0).2=0:=eq_of_neq h
      rw[if_neg (by rw[hne];simp)] at hst
      conv=>whnf
      refine⟨(i+1,Hd,(nextB bi c.gates[i] 0).1,_,_),⟨hii,hsi2.trans sd,hbi.next hne,hov2,hsv2,hst⟩,by dsimp only;omega,?_⟩
      refine⟨rfl,rfl,?_⟩
      conv=>whnf
      repeat (refine⟨rfl,?_⟩;conv=>whnf)
      refine⟨by show En.v (.int .i64 (IntKind.i64.wrap (i+1)))=_;rw[wrap_id (by omega) (by omega)]<;>rfl,?_⟩
      conv=>whnf
      repeat (refine⟨rfl,?_⟩;conv=>whnf)
      exact trivial
  have hii:i=c.gates.length:=by
    have:=of_decide_eq_false hci
    omega
  subst hii
  rw[List.drop_length] at hst
  rw[hst,if_neg (show ¬ (stepsB l [] bi).2 ≠ 0 by simp[stepsB])]
  have es:stepsB l [] bi=(bi,0):=rfl
  rw[es]
  conv=>whnf
  refine (d59 bi.state (by rw[hbi.len];omega) hbi.chk _ _ hsv).val fun Hd sd=>?_
  conv=>whnf
  refine if_intro (fun hd=>?_) (fun hd=>?_)
  · conv=>whnf
    rw[if_pos (show deadB ((bi,(0:Int)).1).state=true from hd)]
    exact OutB.bad
  · conv=>whnf
    rw[if_neg (show ¬ deadB ((bi,(0:Int)).1).state=true from fun h=>by rw[show deadB bi.state=false from hd] at h;cases h)]
    exact⟨_,rfl,_,_,rfl,hov.up sd,NumH.up hsv sd⟩
end Go.Proofs.YtmhnalikebkhjaaGreatDoor

namespace Go.Proofs.YtmhnalikebkhjaaGreatDoor
open Go.Proofs.YtmhnalikebkhjaaGreatDoor.X Go.Proofs.YtmhnalikebkhjaaGreatDoor.X.PH
set_option maxRecDepth 100000
def OutN (H0 H : PH) (r:Value) (x:Br × Int):Prop:=∃ c,r=.tuple #[.agg ⟨c⟩,.int .i64 x.2]∧BrCN H0 H x.1 c
theorem OutN.bad {H0 H : PH} {e:Int}:OutN H0 H (.tuple #[.agg ⟨[.slice none 0 0,.int .i64 0,.slice none 0 0]⟩,.int .i64 e]) (br0,e):=⟨_,rfl,_,_,rfl,⟨by simp[br0],.inl ⟨rfl,rfl⟩⟩,nilW H0 H⟩
theorem along_ys {c : Ct} {v:Vec} {n m:Nat} {l:List Int} (h:RunOK c v n m):evG true (fun k=>[l.getD k 0]) c.gates (startB v)=if (stepsB l c.gates (startB v)).2 ≠ 0 then ([],(stepsB l c.gates (startB v)).2) else ([(stepsB l c.gates (startB v)).1],0):=evG_along l c.gates (startB v) 0 h.gates h.start
theorem steps_ok {n m : Nat} (l:List Int):∀ (gs:List Gt) (b:Br) (i:Nat),(∀ g∈gs,RGate g n m)→BrOK b n i→(stepsB l gs b).2=0→(stepsB l gs b).1.state.length=2 ^ n∧∀ x∈(stepsB l gs b).1.state,IsL x
  | [],b,i,_,hb,_=>⟨hb.len,hb.right⟩
  | g::gs,b,i,hgs,hb,he=>by
    unfold stepsB at he ⊢
    by_cases hn:(nextB b g (l.getD b.outs.length 0)).2 ≠ 0
    · rw[if_pos hn] at he;exact absurd he hn
    · rw[if_neg hn] at he ⊢
      exact steps_ok l gs _ (i+1) (fun g' h=>hgs g' (List.mem_cons_of_mem _ h)) (hb.next (by simpa using hn)) he
theorem not_false {b : Bool} (h:(!b)=false):b=true:=by cases b<;>simp_all
theorem eq_self8 (a0 a1 a2 a3 a4 a5 a6 a7 : Int):eqCells [.int .i64 a0,.int .i64 a1,.int .i64 a2,.int .i64 a3,.int .i64 a4,.int .i64 a5,.int .i64 a6,.int .i64 a7] [.int .i64 a0,.int .i64 a1,.int .i64 a2,.int .i64 a3,.int .i64 a4,.int .i64 a5,.int .i64 a6,.int .i64 a7]=true:=by
  simp[eqCells]
set_option maxHeartbeats 4000000 in
theorem d17 (c : Ct) (v:Vec) (l:List Int) (gs:Value) (hfit:c.fit) (hv:v.length≤100000) (hl:l.length≤100000) (H:PH) (y z:Value) (hx:GatesH H gs c.gates) (hy:NumH H y v) (hz:IntsC H z l):Cl Tryz.prog 17 [cv c gs,y,z] H emp fun r H' _=>OutN H H' r (alongR c v l):=by
  have hg:=hx
  obtain⟨gb,gc,rfl⟩:=hx.sl
  obtain⟨yb,yc,rfl,_⟩:=id hy
  obtain⟨zb,zc,rfl,_⟩:=id hz
  refine Cl_of (pol:=(fun | 5=>.imm | _=>.loc)) Γok Tryz.func17 (by kernel_rfl) rfl ?_
  conv=>whnf
  intro b3
  conv=>whnf
  intro b5 hb5 hO5
  conv=>whnf
  have s5:=sub_ins H (.cells ⟨[.slice zb l.length zc]⟩ 26 (0,0)) hb5
  intro b6
  conv=>whnf
  intro b7
  conv=>whnf
  refine (d61 c v (.slice gb c.gates.length gc) hfit hv _ _ (hg.up s5) (NumH.up hy s5)).mono fun r Ha Ma sa hr=>?_
  have sa5:=sa _ _ (ins_same H b5 (.cells ⟨[.slice zb l.length zc]⟩ 26 (0,0)))
  replace sa:=s5.trans sa
  rcases hr with⟨he,rfl⟩ | ⟨he,bm,hbm,rfl⟩
  · conv=>whnf
    intro b8
    conv=>whnf
    refine if_intro (fun h=>?_) (fun h=>?_)
    · conv=>whnf
      rw[show alongR c v l=(br0,beginErr c v) from if_pos he]
      exact OutN.bad
    · exact absurd (eq_of_neq h) he
  obtain⟨n,m,hok⟩:=run_ok he
  have n6:=hok.n6
  have hfew:=hok.few
  obtain⟨p1,p2⟩:=pow6 n6
  conv=>whnf
  intro b8
  conv=>whnf
  refine if_intro (fun h=>?_) (fun h=>?_)
  · conv=>whnf
    rw[show alongR c v l=(br0,2) by
      unfold alongR
      rw[if_neg (by rw[he];simp),if_pos (fun e=>neq_of h (by rw[e]))]]
    exact OutN.bad
  have hll:l.length=foundN c.gates:=by
    have:=eq_of_neq h
    omega
  conv=>whnf
  refine (d63 l is01 _ _ _ _ _ (hz.up sa).h (fun x _=>⟨64,[],[],rfl,fun H' _=>d64 x H'⟩) (by omega)).val fun Hb sb=>?_
  conv=>whnf
  refine if_intro (fun h=>?_) (fun h=>?_)
  · conv=>whnf
    rw[show alongR c v l=(br0,3) by
      unfold alongR
      rw[if_neg (by rw[he];simp),if_neg (by simpa using hll),if_pos (not_true h)]]
    exact OutN.bad
  have hpi:l.all is01=true:=not_false h
  have hA:alongR c v l=if (stepsB l c.gates (startB v)).2 ≠ 0 then (br0,(stepsB l c.gates (startB v)).2)
    else if deadB (stepsB l c.gates (startB v)).1.state=true then (br0,6) else ((stepsB l c.gates (startB v)).1,0):=by
    unfold alongR
    rw[if_neg (by rw[he];simp),if_neg (by simpa using hll),if_neg (by rw[hpi];simp)]
  rw[hA]
  have hys:=along_ys (l:=l) hok
  have hso:=steps_outs l c.gates (startB v) 0 rfl (by omega)
  have hsk:=steps_ok l c.gates (startB v) 0 hok.gates hok.start
  have hch:∀ k,k < 8→([l.getD k 0]).length≤2∧∀ o∈[l.getD k 0],o=0∨o=1:=fun k _=>⟨by simp,fun o ho=>by
    rw[List.mem_singleton] at ho
    subst ho
    by_cases hk:k < l.length
    · rw[List.getD_eq_getElem?_getD,List.getElem?_eq_getElem hk]
      have:=List.all_eq_true.1 hpi _ (List.getElem_mem hk)
      unfold is01 at this
      simpa using this
    · rw[List.getD_eq_getElem?_getD,List.getElem?_eq_none (by omega)]
      exact .inl rfl⟩
  conv=>whnf
  have sb0:=sb
  replace sb:=sa.trans sb
  refine (d62n c n m v hok (.slice gb c.gates.length gc) (.slice yb v.length yc) 65 [adr b5] bm true (fun k=>[l.getD k 0]) hch _ (NumH.up hy sb) (hg.up sb) (fun lp os h1 h2=>⟨65,[],[adr b5],rfl,fun H' hs=>?_⟩)).use fun it Hc sc hit=>?_
  · refine (d65 l lp os.length (by omega) h1.len hl H' b5 _ ⟨_,_,hs _ _ (sb0 _ _ sa5)⟩ ((hz.up sb).up hs)).mono fun r H'' _ _ h=>h
  obtain⟨_,hit⟩:=hit
  conv=>whnf
  have hit:IterN Tryz.prog bm OpsI Hc it (ysOf (evG true (fun k=>[l.getD k 0]) c.gates (startB v))) BrN:=hit
  rw[hys] at hit
  clear hys hA
  generalize stepsB l c.gates (startB v)=S at hit hso hsk ⊢
  refine W_rangeN (pol:=(fun | 5=>.imm | _=>.loc)) Γok _ BrN hit (PH × PH × Int × List Value)
    (fun k i H'=>i.2.2.1=0∧i.2.2.2=[.slice none 0 0,.int .i64 0,.slice none 0 0]∧Sub Hc i.1∧(∃ o,i.2.1 bm=some o∧OpsI H' o)∧(0 < k→S.2=0∧deadB S.1.state=true))
    (fun x i H'=>x=.ret∧∃ y:Br × Int,BrCN H H' y.1 i.2.2.2∧y.2=i.2.2.1∧y=if S.2 ≠ 0 then (br0,S.2) else if deadB S.1.state=true then (br0,6) else (S.1,0))
    (fun i=>[(2,i.2.2.2),(3,[.int .i64 i.2.2.1])]) (fun i=>i.2.1) (fun i=>i.1) ?_ ?_ ?_ ?_ ⟨(Hc,Ma,0,_),⟨rfl,rfl,Sub.refl _,⟨_,hbm,OpsI.nil _⟩,fun h=>by omega⟩,rfl,rfl,?_⟩ ?_ ?_ ?_
  · rintro k i H1 H2 hs ⟨a1,a2,a3,⟨o,a4,a5⟩,a6⟩
    exact⟨a1,a2,a3,⟨o,a4,a5.up hs⟩,a6⟩
  · rintro x i H1 H2 hs ⟨h,y,h1,h2⟩
    exact⟨h,y,h1.up hs,h2⟩
  · rintro k i H' ⟨a1,a2,a3,a4,a5⟩
    exact a4
  · rintro k ⟨i1,i2,i3,i4⟩ H' o ⟨a1,a2,a3,⟨o',a4,a4'⟩,a5⟩ ho
    exact⟨(i1,ins i2 bm o,i3,i4),⟨a1,a2,a3,⟨o,ins_same _ _ _,ho⟩,a5⟩,rfl,rfl,rfl⟩
  · conv=>whnf
    repeat (refine⟨rfl,?_⟩;conv=>whnf)
  · rintro k y hyk x ⟨i1,i2,i3,i4⟩ H' hs' ⟨a1,a2,a3,⟨om,a4,a4'⟩,a5⟩ hsp ⟨ov,sv,rfl,hov,hsv⟩ w o o' hl'
    dsimp only at a1 a2 a3 a4 a5 hsp hov hsv hl'
    subst a1 a2
    obtain⟨ovb,ovc,rfl,_⟩:=IntsW.c hov
    obtain⟨svb,svc,rfl,_⟩:=NumW.num hsv
    conv=>whnf
    intro b11
    conv=>whnf
    refine⟨rfl,?_⟩
    conv=>whnf
    refine⟨i2,rfl,?_⟩
    conv=>whnf
    refine if_intro (fun h=>?_) (fun h=>?_)
    · have hy2:y.2 ≠ 0:=neq_of h
      have hS:S.2 ≠ 0∧y=(br0,S.2):=by
        by_cases h2:S.2 ≠ 0
        · rw[if_pos h2] at hyk
          rcases ys_at hyk with⟨hk,_⟩ | ⟨_,_,e⟩
          · exact absurd hk (by simp)
          · exact⟨h2,e⟩
        · rw[if_neg h2] at hyk
          rcases ys_at hyk with⟨hk,e⟩ | ⟨_,e,_⟩
          · rw[e] at hy2;exact absurd rfl hy2
          · exact absurd rfl e
      obtain⟨hS,rfl⟩:=hS
      conv=>whnf
      refine⟨(i1,i2,S.2,[.slice none 0 0,.int .i64 0,.slice none 0 0]),.inr ⟨⟨rfl,(br0,S.2),⟨_,_,rfl,⟨by simp[br0],.inl ⟨rfl,rfl⟩⟩,nilW H _⟩,rfl,(if_pos hS).symm⟩,rfl⟩,hl',rfl,?_⟩
      conv=>whnf
      repeat (refine⟨rfl,?_⟩;conv=>whnf)
      exact trivial
    have hy2:y.2=0:=eq_of_neq h
    have hS:S.2=0∧y=(S.1,0):=by
      by_cases h2:S.2 ≠ 0
      · rw[if_pos h2] at hyk
        rcases ys_at hyk with⟨hk,_⟩ | ⟨_,_,e⟩
        · exact absurd hk (by simp)
        · rw[e] at hy2;exact absurd hy2 h2
      · rw[if_neg h2] at hyk
        rcases ys_at hyk with⟨hk,e⟩ | ⟨_,e,_⟩
        · have:k=0:=by simpa using hk
          subst this
          exact⟨by simpa using h2,e⟩
        · exact absurd rfl e
    obtain⟨hS,rfl⟩:=hS
    have ho:=hso hS
    obtain⟨k1,k2⟩:=hsk hS
    dsimp only at hov hsv
    have hl8:l.length≤8:=by omega
    have ho66:IntsH H' (.slice ovb S.1.outs.length ovc) l:=by
      have:=(IntsW.c hov).h
      rw[ho] at this
      rw[ho]
      exact this
    obtain⟨q0,q1,q2,q3,q4,q5,q6,q7,e8⟩:=eight (padI_len hl8)
    have c66:∀ H'' u,IntsH H'' u l→Cl Tryz.prog 66 [u] H'' emp fun r _ _=>r=.agg ⟨[.int .i64 q0,.int .i64 q1,.int .i64 q2,.int .i64 q3,.int .i64 q4,.int .i64 q5,.int .i64 q6,.int .i64 q7]⟩:=fun H'' u hu=>by
      have:=d66 l hl8 H'' u hu
      rw[e8] at this
      exact this
    conv=>whnf
    refine W_draw (pol:=(fun | 5=>.imm | _=>.loc)) Γok mixes [(0,.pendO),(1,.pendO),(3,.pend),(2,.lock),(4,.lock),(5,.pendO),(6,.pendO),(7,.pendO),(8,.pendO),(9,.lock),(10,.pendO),(11,.pendO)] 62 (by kernel_rfl) rfl ?_
    conv=>whnf
    refine (c66 _ _ ho66).val fun Hd sd=>?_
    conv=>whnf
    refine (c66 _ _ (IntsH.up (hz.up (sb.trans sc)).h (hs'.trans sd))).val fun He se=>?_
    conv=>whnf
    refine if_intro (fun heq=>?_) (fun heq=>?_)
    rotate_left
    · rw[show eqCells _ _=true from eq_self8 q0 q1 q2 q3 q4 q5 q6 q7] at heq
      cases heq
    conv=>whnf
    refine (d67 S.1.state (by rw[k1];omega) k2 _ _ (NumH.up (NumW.num hsv) (sd.trans se))).val fun Hf sf=>?_
    have sdf:=(sd.trans se).trans sf
    conv=>whnf
    refine if_intro (fun hd=>?_) (fun hd=>?_)
    · conv=>whnf
      have hd:=not_true hd
      have s0:=(sb.trans sc).trans a3
      refine⟨(i1,i2,0,[.slice ovb S.1.outs.length ovc,.int .i64 S.1.bits,.slice svb S.1.state.length svc]),.inr ⟨⟨rfl,(S.1,0),⟨_,_,rfl,IntsW.base (IntsW.up hov sdf) s0,NumW.base (NumW.up hsv sdf) s0⟩,rfl,?_⟩,rfl⟩,hl',rfl,?_⟩
      · rw[if_neg (by rw[hS];simp),if_neg (by rw[hd];simp)]
      conv=>whnf
      repeat (refine⟨rfl,?_⟩;conv=>whnf)
      exact trivial
    · conv=>whnf
      have hd:=not_false hd
      refine⟨(Hf,i2,0,[.slice none 0 0,.int .i64 0,.slice none 0 0]),.inl ⟨rfl,⟨rfl,rfl,a3.trans (hsp.trans sdf),⟨om,a4,a4'.up sdf⟩,fun _=>⟨hS,hd⟩⟩,rfl⟩,hl',rfl,?_⟩
      conv=>whnf
      repeat (refine⟨rfl,?_⟩;conv=>whnf)
      exact trivial
  · rintro ⟨i1,i2,i3,i4⟩ H' hs' ⟨a1,a2,a3,a4,a5⟩ hsp
    dsimp only at a1 a2 a3 a4 a5 hsp
    subst a1 a2
    have hS:S.2=0∧deadB S.1.state=true:=by
      refine a5 ?_
      rw[ys_len]
      by_cases h2:S.2 ≠ 0
      · rw[if_pos h2]
        show 0 < 0+if S.2 ≠ 0 then 1 else 0
        rw[if_pos h2]
        decide
      · rw[if_neg h2];simp
    conv=>whnf
    rw[if_neg (by rw[hS.1];simp),if_pos hS.2]
    exact OutN.bad
  · rintro x ⟨i1,i2,i3,i4⟩ H' hs' ⟨rfl,y,h1,h2,h3⟩
    dsimp only at h1 h2
    rw[← h3,← h2]
    obtain⟨ov,sv,rfl,h4,h5⟩:=h1
    obtain⟨ovb,ovc,rfl,_⟩:=IntsW.c h4
    obtain⟨svb,svc,rfl,_⟩:=NumW.num h5
    conv=>whnf
    exact⟨_,rfl,_,_,rfl,h4,h5⟩
end Go.Proofs.YtmhnalikebkhjaaGreatDoor

namespace Go.Proofs.YtmhnalikebkhjaaGreatDoor
open Go.Proofs.YtmhnalikebkhjaaGreatDoor.X Go.Proofs.YtmhnalikebkhjaaGreatDoor.X.PH
set_option maxRecDepth 100000
theorem d51 (kind : Int) (w:Value) (ws:List Int) (H:PH) (hw:IntsC H w ws):Cl Tryz.prog 51 [.int .i64 kind,w] H emp fun r _ _=>r=gv ⟨kind,ws,0,0⟩ w:=by
  obtain⟨wb,wc,rfl,_⟩:=hw
  refine Cl_of (pol:=polL) Γok Tryz.func51 (by kernel_rfl) rfl ?_
  conv=>whnf
  intro b4
  conv=>whnf
  rfl
theorem d52 (n : Int) (g:Value) (gs:List Gt) (H:PH) (hg:GatesH H g gs):Cl Tryz.prog 52 [.int .i64 n,g] H emp fun r _ _=>r=cv ⟨n,0,gs⟩ g:=by
  obtain⟨gb,gc,rfl⟩:=hg.sl
  refine Cl_of (pol:=polL) Γok Tryz.func52 (by kernel_rfl) rfl ?_
  conv=>whnf
  intro b4
  conv=>whnf
  rfl
theorem d20 (a b c : Value) (ha:∃ x y z,a=.slice x y z) (hb:∃ k n,b=.int k n) (hc:∃ x y z,c=.slice x y z) (H:PH):Cl Tryz.prog 20 [.agg ⟨[a,b,c]⟩] H emp fun r _ _=>r=.agg ⟨[a,b,c]⟩:=by
  obtain⟨_,_,_,rfl⟩:=ha
  obtain⟨_,_,rfl⟩:=hb
  obtain⟨_,_,_,rfl⟩:=hc
  refine Cl_of (pol:=polL) Γok Tryz.func20 (by kernel_rfl) rfl ?_
  conv=>whnf
  intro b1
  conv=>whnf
  intro b2
  conv=>whnf
def sameB (a b : Br):Bool:=decide (a.outs=b.outs) && (a.bits == b.bits) && eqL a.state b.state
theorem d19 (a b : Br) (ho:a.outs.length≤100000) (hs:a.state.length≤100000) (H:PH) (x y:List Value) (hx:BrC H a x) (hy:BrC H b y):Cl Tryz.prog 19 [.agg ⟨x⟩,.agg ⟨y⟩] H emp fun r _ _=>r=.bool (sameB a b):=by
  obtain⟨ov,sv,rfl,h1,h2⟩:=hx
  obtain⟨ov',sv',rfl,h3,h4⟩:=hy
  have h1':=h1.h
  have h3':=h3.h
  obtain⟨ob,oc,rfl,_⟩:=id h1
  obtain⟨sb,sc,rfl,_⟩:=id h2
  obtain⟨ob',oc',rfl,_⟩:=id h3
  obtain⟨sb',sc',rfl,_⟩:=id h4
  refine Cl_of (pol:=polL) Γok Tryz.func19 (by kernel_rfl) rfl ?_
  conv=>whnf
  intro b2
  conv=>whnf
  intro b3
  conv=>whnf
  refine (c25 a.outs b.outs (by omega) _ _ _ h1' h3').val fun Ha sa=>?_
  conv=>whnf
  unfold sameB
  refine if_intro (fun h=>?_) (fun h=>?_)
  · conv=>whnf
    refine if_intro (fun hb=>?_) (fun hb=>?_)
    · conv=>whnf
      refine (c48 a.state b.state _ _ _ (NumH.up h2 sa) (NumH.up h4 sa) (by omega)).val fun Hb sb=>?_
      conv=>whnf
      rw[h,show (a.bits == b.bits)=true from hb]
      rfl
    · conv=>whnf
      rw[h,show (a.bits == b.bits)=false from hb]
      rfl
  · conv=>whnf
    rw[h]
    rfl
def smallB (c : Ct) (n:Nat):Bool:=!greatC c && (decide (c.wires < 5) || ((n:Int) != shlI 1 (if 6 < c.wires then 6 else c.wires))) && decide ((n:Int)≤66)
theorem d8 (c : Ct) (v:Vec) (hc:c.gates.length < 9223372036854775808) (H:PH) (x y:Value) (hx:CircH H x c) (hy:NumH H y v):Cl Tryz.prog 8 [x,y] H emp fun r _ _=>r=.bool (smallB c v.length):=by
  obtain⟨gb,gc,rfl,hg⟩:=hx.sl
  obtain⟨yb,yc,rfl,_⟩:=id hy
  refine Cl_of (pol:=polL) Γok Tryz.func8 (by kernel_rfl) rfl ?_
  conv=>whnf
  intro b2
  conv=>whnf
  refine (d31 c hc _ _ ⟨_,rfl,hg⟩).val fun Ha sa=>?_
  unfold smallB
  generalize greatC c=G
  conv=>whnf
  refine if_intro (fun h=>?_) (fun h=>?_)
  · have hG:G=false:=not_true h
    subst hG
    conv=>whnf
    refine if_intro (fun h5=>?_) (fun h5=>?_)
    · conv=>whnf
      rw[h5]
      rfl
    · have h5':¬ c.wires < 5:=of_decide_eq_false h5
      have e1:(if 6 < c.wires then (6:Int) else c.wires) ≥ 0:=by split<;>omega
      rw[h5,Bool.false_or]
      conv=>whnf
      refine dec_intro e1 ?_
      generalize (if 6 < c.wires then (6:Int) else c.wires)=k
      conv=>whnf
      refine if_intro (fun hn=>?_) (fun hn=>?_)
      · conv=>whnf
        rw[show ((v.length:Int) != shlI 1 k)=true from hn]
        rfl
      · conv=>whnf
        rw[show ((v.length:Int) != shlI 1 k)=false from hn]
        rfl
  · have hG:G=true:=not_false h
    subst hG
    conv=>whnf
    rfl
end Go.Proofs.YtmhnalikebkhjaaGreatDoor

namespace Go.Proofs.YtmhnalikebkhjaaGreatDoor
open Go.Proofs.YtmhnalikebkhjaaGreatDoor.X Go.Proofs.YtmhnalikebkhjaaGreatDoor.X.PH
set_option maxRecDepth 100000
def polBell : Tmp→Pol:=fun | 3=>.own | 4=>.imm | 6=>.imm | 8=>.imm | 13=>.imm | 15=>.imm | 17=>.imm | _=>.loc
theorem ints_c {H : PH} {b:Nat} {l:List Int} {n:Nat} {fr:Nat × Nat} (hb:H b=some (.cells ⟨l.map fun x=>.int .i64 x⟩ 3 fr)) (hn:n=l.length:=by rfl):IntsC H (.slice (some ⟨b,0,none⟩) n n) l:=by
  subst hn
  exact⟨_,_,rfl,Nat.le_refl _,⟨_,_,rfl,.inr ⟨b,0,_,_,_,rfl,hb,by simp[List.take_of_length_le]⟩⟩⟩
theorem gates_of {H : PH} {b n cap:Nat} {t:TypeId} {fr:Nat × Nat} {gs:List Gt} (cs:List (List Value)) (sp:List Value) (hb:H b=some (.cells ⟨cs.flatten++sp⟩ t fr)) (hl:cs.length=gs.length) (hn:n=gs.length) (hc:∀ (i:Nat) g c,gs[i]?=some g→cs[i]?=some c→GateC H g c):GatesH H (.slice (some ⟨b,0,none⟩) n cap) gs:=by
  subst hn
  refine⟨cs,hl,⟨fun c hcm=>?_,⟨_,_,by rw[hl],.inr ⟨b,0,_,_,_,rfl,hb,by simp⟩⟩⟩,hc⟩
  obtain⟨i,hi,rfl⟩:=List.mem_iff_getElem.1 hcm
  obtain⟨w,e,_⟩:=hc i _ _ (List.getElem?_eq_getElem (by omega)) (List.getElem?_eq_getElem hi)
  rw[e]
  rfl
theorem gates2 {H : PH} {b cap:Nat} {t:TypeId} {fr:Nat × Nat} {g1 g2:Gt} {w1 w2:Value} (hb:H b=some (.cells ⟨[.int .i64 g1.kind,w1,.int .i64 g1.bit,.int .i64 g1.cond,.int .i64 g2.kind,w2,.int .i64 g2.bit,.int .i64 g2.cond]⟩ t fr)) (h1:IntsC H w1 g1.ws) (h2:IntsC H w2 g2.ws):GatesH H (.slice (some ⟨b,0,none⟩) 2 cap) [g1,g2]:=
  gates_of [[.int .i64 g1.kind,w1,.int .i64 g1.bit,.int .i64 g1.cond],[.int .i64 g2.kind,w2,.int .i64 g2.bit,.int .i64 g2.cond]] [] (by simpa using hb) rfl rfl fun i g c hg hc=>by
    match i with
    | 0=>cases hg;cases hc;exact⟨_,rfl,h1⟩
    | 1=>cases hg;cases hc;exact⟨_,rfl,h2⟩
theorem gates1 {H : PH} {b cap:Nat} {t:TypeId} {fr:Nat × Nat} {g1:Gt} {w1:Value} (hb:H b=some (.cells ⟨[.int .i64 g1.kind,w1,.int .i64 g1.bit,.int .i64 g1.cond]⟩ t fr)) (h1:IntsC H w1 g1.ws):GatesH H (.slice (some ⟨b,0,none⟩) 1 cap) [g1]:=
  gates_of [[.int .i64 g1.kind,w1,.int .i64 g1.bit,.int .i64 g1.cond]] [] (by simpa using hb) rfl rfl fun i g c hg hc=>by
    match i with
    | 0=>cases hg;cases hc;exact⟨_,rfl,h1⟩
theorem gates3 {H : PH} {b cap:Nat} {t:TypeId} {fr:Nat × Nat} {g1 g2 g3:Gt} {w1 w2 w3:Value} (hb:H b=some (.cells ⟨[.int .i64 g1.kind,w1,.int .i64 g1.bit,.int .i64 g1.cond,.int .i64 g2.kind,w2,.int .i64 g2.bit,.int .i64 g2.cond,.int .i64 g3.kind,w3,.int .i64 g3.bit,.int .i64 g3.cond]⟩ t fr)) (h1:IntsC H w1 g1.ws) (h2:IntsC H w2 g2.ws) (h3:IntsC H w3 g3.ws):GatesH H (.slice (some ⟨b,0,none⟩) 3 cap) [g1,g2,g3]:=
  gates_of [[.int .i64 g1.kind,w1,.int .i64 g1.bit,.int .i64 g1.cond],[.int .i64 g2.kind,w2,.int .i64 g2.bit,.int .i64 g2.cond],[.int .i64 g3.kind,w3,.int .i64 g3.bit,.int .i64 g3.cond]] [] (by simpa using hb) rfl rfl fun i g c hg hc=>by
    match i with
    | 0=>cases hg;cases hc;exact⟨_,rfl,h1⟩
    | 1=>cases hg;cases hc;exact⟨_,rfl,h2⟩
    | 2=>cases hg;cases hc;exact⟨_,rfl,h3⟩
def bellC (m : Bool):Ct:=⟨2,2,if m=true then [⟨4,[0],0,0⟩,⟨9,[0,1],0,0⟩,⟨13,[0],0,0⟩,⟨13,[1],1,0⟩] else [⟨4,[0],0,0⟩,⟨9,[0,1],0,0⟩]⟩
abbrev sl (b n : Nat):Value:=.slice (some ⟨b,0,none⟩) n n
def i1 (H : PH) (b:Nat) (x:Int):Prop:=H b=some (.cells ⟨[.int .i64 x]⟩ 3 (0,0))
def BSp (b3 b8 b4 b6 : Nat):Nat→Value→PH→PH→Prop
  | 0,x,_,_=>x=.pointer (some ⟨b3,2,none⟩)
  | 1,x,_,_=>x=sl b8 2
  | 2,x,H,_=>∃ b,x=sl b 1∧i1 H b 0
  | 3,x,H,_=>∃ b,x=.agg ⟨[.int .i64 13,sl b 1,.int .i64 0,.int .i64 0]⟩∧i1 H b 0
  | 4,x,H,_=>∃ b,x=sl b 1∧i1 H b 1
  | 5,x,H,_=>∃ b,x=.agg ⟨[.int .i64 13,sl b 1,.int .i64 1,.int .i64 0]⟩∧i1 H b 1
  | 6,x,H,_=>∃ b b1 b2,x=sl b 2∧H b=some (.cells ⟨[.int .i64 13,sl b1 1,.int .i64 0,.int .i64 0,.int .i64 13,sl b2 1,.int .i64 1,.int .i64 0]⟩ 57 (0,0))∧i1 H b1 0∧i1 H b2 1
  | 7,x,H,O=>∃ b cap sp b1 b2,x=.slice (some ⟨b,0,none⟩) 4 cap∧b ≠ b3∧O b=some (.cells ⟨[.int .i64 4,sl b4 1,.int .i64 0,.int .i64 0,.int .i64 9,sl b6 2,.int .i64 0,.int .i64 0,.int .i64 13,sl b1 1,.int .i64 0,.int .i64 0,.int .i64 13,sl b2 1,.int .i64 1,.int .i64 0]++sp⟩ 57 (0,0))∧i1 H b1 0∧i1 H b2 1
  | 8,x,_,_=>x=.pointer (some ⟨b3,2,none⟩)
  | 9,_,H,O=>∃ b cap sp b1 b2,O b3=some (.cells ⟨[.int .i64 2,.int .i64 2,.slice (some ⟨b,0,none⟩) 4 cap]⟩ 24 (0,0))∧b ≠ b3∧O b=some (.cells ⟨[.int .i64 4,sl b4 1,.int .i64 0,.int .i64 0,.int .i64 9,sl b6 2,.int .i64 0,.int .i64 0,.int .i64 13,sl b1 1,.int .i64 0,.int .i64 0,.int .i64 13,sl b2 1,.int .i64 1,.int .i64 0]++sp⟩ 57 (0,0))∧i1 H b1 0∧i1 H b2 1
  | _,_,_,_=>True
theorem BSp.up {b3 b8 b4 b6 i : Nat} {x:Value} {H H' O:PH} (h:BSp b3 b8 b4 b6 i x H O) (hs:Sub H H'):BSp b3 b8 b4 b6 i x H' O:=by
  unfold BSp i1 at *
  split at h
  all_goals first
    | exact h
    | (obtain⟨b,h1,h2⟩:=h;exact⟨b,h1,hs _ _ h2⟩)
    | (obtain⟨b,b1,b2,h1,h2,h3,h4⟩:=h;exact⟨b,b1,b2,h1,hs _ _ h2,hs _ _ h3,hs _ _ h4⟩)
    | (obtain⟨b,cap,sp,b1,b2,h1,h2,h3,h4,h5⟩:=h;exact⟨b,cap,sp,b1,b2,h1,h2,h3,hs _ _ h4,hs _ _ h5⟩)
theorem BSp.o {b3 b8 b4 b6 i : Nat} {x:Value} {H O O':PH} (h:BSp b3 b8 b4 b6 i x H O) (h7:i ≠ 7) (h9:i ≠ 9):BSp b3 b8 b4 b6 i x H O':=by
  unfold BSp at *
  split at h
  all_goals first
    | exact h
    | exact absurd rfl h7
    | exact absurd rfl h9
structure BI (H0 : PH) (b3 b8 b4 b6:Nat) (L:Nat→Bool) (V:Nat→Value) (H O:PH):Prop where
  sub:Sub H0 H
  old:L 9=false→O b3=some (.cells ⟨[.int .i64 2,.int .i64 2,sl b8 2]⟩ 24 (0,0))
  sp:∀ i,L i=true→BSp b3 b8 b4 b6 i (V i) H O
  c7:L 7=true→L 1=true
  c9:L 9=true→L 7=true
theorem BI.step {H0 : PH} {b3 b8 b4 b6:Nat} {L:Nat→Bool} {V:Nat→Value} {H O H':PH} (h:BI H0 b3 b8 b4 b6 L V H O) {i:Nat} {v:Value} (hs:Sub H H') (h9:i ≠ 9) (hv:BSp b3 b8 b4 b6 i v H' O) (h7:i=7→L 1=true:=by intro h;exact absurd h (by decide)):BI H0 b3 b8 b4 b6 (setL L i) (setV V i v) H' O:=by
  refine⟨h.sub.trans hs,fun h'=>h.old ?_,fun k hk=>?_,?_,?_⟩
  · unfold setL at h'
    cases e:L 9 with
    | false=>rfl
    | true=>rw[e] at h';simp at h'
  · by_cases e:k=i
    · subst e
      simp only[setV,beq_self_eq_true,cond_true]
      exact hv
    · have e2:(k == i)=false:=by simpa using e
      simp only[setV,e2,cond_false]
      simp only[setL,e2,Bool.false_or] at hk
      exact (h.sp k hk).up hs
  · intro h'
    simp only[setL] at h' ⊢
    by_cases e:i=7
    · rw[h7 e,Bool.or_true]
    · rw[beq_eq_false_iff_ne.2 (Ne.symm e),Bool.false_or] at h'
      rw[h.c7 h',Bool.or_true]
  · intro h'
    simp only[setL] at h' ⊢
    rw[beq_eq_false_iff_ne.2 (Ne.symm h9),Bool.false_or] at h'
    rw[h.c9 h',Bool.or_true]
set_option maxHeartbeats 4000000 in
theorem d53o (m : Bool) (H:PH):Cl Tryz.prog 53 [.bool m] H emp fun r H' M'=>CircH H' r (bellC m)∨(m=true∧∃ b cap sp b4 b6 b1 b2,r=.agg ⟨[.int .i64 2,.int .i64 2,.slice (some ⟨b,0,none⟩) 4 cap]⟩∧M' b=some (.cells ⟨[.int .i64 4,sl b4 1,.int .i64 0,.int .i64 0,.int .i64 9,sl b6 2,.int .i64 0,.int .i64 0,.int .i64 13,sl b1 1,.int .i64 0,.int .i64 0,.int .i64 13,sl b2 1,.int .i64 1,.int .i64 0]++sp⟩ 57 (0,0))∧i1 H' b4 0∧H' b6=some (.cells ⟨[.int .i64 0,.int .i64 1]⟩ 3 (0,0))∧i1 H' b1 0∧i1 H' b2 1):=by
  refine Cl_of (pol:=polBell) Γok Tryz.func53 (by kernel_rfl) rfl ?_
  conv=>whnf
  intro b2
  conv=>whnf
  intro b4 hb4 hO4
  conv=>whnf
  have s4:=sub_ins H (.cells ⟨[.int .i64 0]⟩ 3 (0,0)) hb4
  refine (d51 4 _ [0] _ (ints_c (ins_same _ _ _))).val fun Ha sa=>?_
  conv=>whnf
  intro b6 hb6 hO6
  conv=>whnf
  have s6:=sub_ins Ha (.cells ⟨[.int .i64 0,.int .i64 1]⟩ 3 (0,0)) hb6
  refine (d51 9 _ [0,1] _ (ints_c (ins_same _ _ _))).val fun Hb sb=>?_
  conv=>whnf
  intro b8 hb8 hO8
  conv=>whnf
  have s8:=sub_ins Hb (.cells ⟨[.int .i64 4,sl b4 1,.int .i64 0,.int .i64 0,.int .i64 9,sl b6 2,.int .i64 0,.int .i64 0]⟩ 57 (0,0)) hb8
  intro b3 hb3 hO3
  conv=>whnf
  refine⟨_,_,ins_same _ _ _,Nat.le_refl 3,?_⟩
  rw[ins_ins]
  have hsub:Sub H (ins Hb b8 (.cells ⟨[.int .i64 4,sl b4 1,.int .i64 0,.int .i64 0,.int .i64 9,sl b6 2,.int .i64 0,.int .i64 0]⟩ 57 (0,0))):=s4.trans (sa.trans (s6.trans (sb.trans s8)))
  have h4:(ins Hb b8 (.cells ⟨[.int .i64 4,sl b4 1,.int .i64 0,.int .i64 0,.int .i64 9,sl b6 2,.int .i64 0,.int .i64 0]⟩ 57 (0,0))) b4=some (.cells ⟨[.int .i64 0]⟩ 3 (0,0)):=(sa.trans (s6.trans (sb.trans s8))) _ _ (ins_same _ _ _)
  have h6:(ins Hb b8 (.cells ⟨[.int .i64 4,sl b4 1,.int .i64 0,.int .i64 0,.int .i64 9,sl b6 2,.int .i64 0,.int .i64 0]⟩ 57 (0,0))) b6=some (.cells ⟨[.int .i64 0,.int .i64 1]⟩ 3 (0,0)):=(sb.trans s8) _ _ (ins_same _ _ _)
  have h8:(ins Hb b8 (.cells ⟨[.int .i64 4,sl b4 1,.int .i64 0,.int .i64 0,.int .i64 9,sl b6 2,.int .i64 0,.int .i64 0]⟩ 57 (0,0))) b8=some (.cells ⟨[.int .i64 4,sl b4 1,.int .i64 0,.int .i64 0,.int .i64 9,sl b6 2,.int .i64 0,.int .i64 0]⟩ 57 (0,0)):=ins_same _ _ _
  generalize (ins Hb b8 (.cells ⟨[.int .i64 4,sl b4 1,.int .i64 0,.int .i64 0,.int .i64 9,sl b6 2,.int .i64 0,.int .i64 0]⟩ 57 (0,0)))=H1 at hsub h4 h6 h8 hb3 ⊢
  cases m with
  | false=>
    conv=>whnf
    refine⟨_,⟨rfl,rfl,_,_,_,.inr (ins_same _ _ _),rfl⟩,?_⟩
    conv=>whnf
    exact .inl ⟨sl b8 2,rfl,gates2 (g1:=⟨4,[0],0,0⟩) (g2:=⟨9,[0,1],0,0⟩) h8 (ints_c h4) (ints_c h6)⟩
  | true=>
    conv=>whnf
    refine W_free (pol:=polBell) Γok mixes 21 (by kernel_rfl) rfl (BI H1 b3 b8 b4 b6) ⟨Sub.refl _,fun _=>ins_same _ _ _,fun i h=>(by cases h),fun h=>(by cases h),fun h=>(by cases h)⟩ ?_ ?_
    · intro i o ho L V H' O' hI hLi hsee
      have hi:i < 10:=(List.getElem?_eq_some_iff.1 ho).1
      have get:∀ j,seesB _ o j=true→BSp b3 b8 b4 b6 j (V j) H' O':=fun j h=>hI.sp j (hsee j h)
      rcases (show i=0∨i=1∨i=2∨i=3∨i=4∨i=5∨i=6∨i=7∨i=8∨i=9 by omega) with rfl | rfl | rfl | rfl | rfl | rfl | rfl | rfl | rfl | rfl
      · cases ho
        conv=>whnf
        exact⟨⟨_,rfl⟩,_,rfl,hI.step (Sub.refl _) (by decide) rfl⟩
      · cases ho
        have h0:V 0=.pointer (some ⟨b3,2,none⟩):=get 0 (by kernel_rfl)
        have h9:L 9=false:=by
          cases e:L 9 with
          | false=>rfl
          | true=>
            have:=hI.c7 (hI.c9 e)
            rw[hLi] at this
            cases this
        conv=>whnf
        rw[h0]
        conv=>whnf
        refine⟨[sl b8 2],⟨rfl,rfl,_,_,_,.inr (hI.old h9),rfl⟩,?_⟩
        conv=>whnf
        exact⟨⟨_,rfl⟩,_,rfl,hI.step (Sub.refl _) (by decide) rfl⟩
      · cases ho
        conv=>whnf
        intro b hb hO
        exact⟨⟨_,rfl⟩,_,rfl,hI.step (sub_ins _ _ hb) (by decide) ⟨b,rfl,ins_same _ _ _⟩⟩
      · cases ho
        obtain⟨b,h2,h2'⟩:∃ b,V 2=sl b 1∧i1 H' b 0:=get 2 (by kernel_rfl)
        conv=>whnf
        rw[h2]
        conv=>whnf
        refine (d51 13 _ [0] _ (ints_c h2')).val fun H3 s3=>?_
        conv=>whnf
        exact⟨⟨_,rfl⟩,_,rfl,hI.step s3 (by decide) ⟨b,rfl,s3 _ _ h2'⟩⟩
      · cases ho
        conv=>whnf
        intro b hb hO
        exact⟨⟨_,rfl⟩,_,rfl,hI.step (sub_ins _ _ hb) (by decide) ⟨b,rfl,ins_same _ _ _⟩⟩
      · cases ho
        obtain⟨b,h2,h2'⟩:∃ b,V 4=sl b 1∧i1 H' b 1:=get 4 (by kernel_rfl)
        conv=>whnf
        rw[h2]
        conv=>whnf
        exact⟨⟨_,rfl⟩,_,rfl,hI.step (Sub.refl _) (by decide) ⟨b,rfl,h2'⟩⟩
      · cases ho
        obtain⟨b1,h1,h1'⟩:∃ b,V 3=.agg ⟨[.int .i64 13,sl b 1,.int .i64 0,.int .i64 0]⟩∧i1 H' b 0:=get 3 (by kernel_rfl)
        obtain⟨b2,h2,h2'⟩:∃ b,V 5=.agg ⟨[.int .i64 13,sl b 1,.int .i64 1,.int .i64 0]⟩∧i1 H' b 1:=get 5 (by kernel_rfl)
        conv=>whnf
        rw[h1]
        conv=>whnf
        rw[h2]
        conv=>whnf
        intro b hb hO
        have s:=sub_ins H' (.cells ⟨[.int .i64 13,sl b1 1,.int .i64 0,.int .i64 0,.int .i64 13,sl b2 1,.int .i64 1,.int .i64 0]⟩ 57 (0,0)) hb
        exact⟨⟨_,rfl⟩,_,rfl,hI.step s (by decide) ⟨b,b1,b2,rfl,ins_same _ _ _,s _ _ h1',s _ _ h2'⟩⟩
      · cases ho
        have h1:V 1=sl b8 2:=get 1 (by kernel_rfl)
        obtain⟨b,b1,b2,h6',hb,hb1,hb2⟩:∃ b b1 b2,V 6=sl b 2∧H' b=some (.cells ⟨[.int .i64 13,sl b1 1,.int .i64 0,.int .i64 0,.int .i64 13,sl b2 1,.int .i64 1,.int .i64 0]⟩ 57 (0,0))∧i1 H' b1 0∧i1 H' b2 1:=get 6 (by kernel_rfl)
        have hL1:L 1=true:=hsee 1 (by kernel_rfl)
        conv=>whnf
        rw[h1]
        conv=>whnf
        rw[h6']
        conv=>whnf
        unfold appendK
        refine⟨some ⟨b8,0,none⟩,2,2,some ⟨b,0,none⟩,2,2,[.int .i64 13,sl b1 1,.int .i64 0,.int .i64 0,.int .i64 13,sl b2 1,.int .i64 1,.int .i64 0],rfl,rfl,rfl,?_,(fun h=>by cases h),fun a ha _=>?_,by decide,rfl,(fun h=>by cases h),(fun _ h=>by omega),fun _=>⟨[.int .i64 4,sl b4 1,.int .i64 0,.int .i64 0,.int .i64 9,sl b6 2,.int .i64 0,.int .i64 0],rfl,(fun h=>by cases h),fun a ha=>?_,fun bn cap hn1 hn2 hcap=>?_⟩⟩
        · intro v hv
          simp only[List.mem_cons,List.not_mem_nil,or_false] at hv
          rcases hv with rfl | rfl | rfl | rfl | rfl | rfl | rfl | rfl<;>rfl
        · cases ha
          exact⟨rfl,rfl,_,_,_,.inl hb,rfl⟩
        · cases ha
          exact⟨rfl,rfl,_,_,_,.inl (hI.sub _ _ h8),rfl⟩
        · conv=>whnf
          have h9:L 9=false:=by
            cases e:L 9 with
            | false=>rfl
            | true=>
              have:=hI.c9 e
              rw[hLi] at this
              cases this
          have hbn:bn ≠ b3:=fun e=>by rw[e,hI.old h9] at hn2;cases hn2
          refine⟨⟨_,rfl⟩,_,rfl,hI.sub,fun _=>(ins_ne _ _ (Ne.symm hbn)).trans (hI.old h9),fun k hk=>?_,fun _=>?_,fun h=>?_⟩
          · by_cases e:k=7
            · subst e
              exact⟨bn,cap,_,b1,b2,rfl,hbn,ins_same _ _ _,hb1,hb2⟩
            · have e2:(k == 7)=false:=by simpa using e
              simp only[setV,e2,cond_false]
              simp only[setL,e2,Bool.false_or] at hk
              exact (hI.sp k hk).o e fun e=>by rw[e,h9] at hk;cases hk
          · simp only[setL]
            rw[hL1,Bool.or_true]
          · simp only[setL]
            rfl
      · cases ho
        conv=>whnf
        exact⟨⟨_,rfl⟩,_,rfl,hI.step (Sub.refl _) (by decide) rfl⟩
      · cases ho
        have h8':V 8=.pointer (some ⟨b3,2,none⟩):=get 8 (by kernel_rfl)
        obtain⟨b,cap,sp,b1,b2,h7,hbb,hO,hb1,hb2⟩:∃ b cap sp b1 b2,V 7=.slice (some ⟨b,0,none⟩) 4 cap∧b ≠ b3∧O' b=some (.cells ⟨[.int .i64 4,sl b4 1,.int .i64 0,.int .i64 0,.int .i64 9,sl b6 2,.int .i64 0,.int .i64 0,.int .i64 13,sl b1 1,.int .i64 0,.int .i64 0,.int .i64 13,sl b2 1,.int .i64 1,.int .i64 0]++sp⟩ 57 (0,0))∧i1 H' b1 0∧i1 H' b2 1:=get 7 (by kernel_rfl)
        have hL7:L 7=true:=hsee 7 (by kernel_rfl)
        conv=>whnf
        rw[h8']
        conv=>whnf
        rw[h7]
        conv=>whnf
        refine⟨_,_,hI.old hLi,Nat.le_refl 3,?_⟩
        refine⟨⟨_,rfl⟩,_,rfl,hI.sub,fun h=>by simp[setL] at h,fun k hk=>?_,fun _=>?_,fun h=>?_⟩
        · by_cases e:k=9
          · subst e
            exact⟨b,cap,sp,b1,b2,ins_same _ _ _,hbb,(ins_ne _ _ hbb).trans hO,hb1,hb2⟩
          · have e2:(k == 9)=false:=by simpa using e
            simp only[setV,e2,cond_false]
            simp only[setL,e2,Bool.false_or] at hk
            by_cases e7:k=7
            · subst e7
              exact⟨b,cap,sp,b1,b2,h7,hbb,(ins_ne _ _ hbb).trans hO,hb1,hb2⟩
            · exact (hI.sp k hk).o e7 e
        · simp only[setL]
          rw[hI.c7 hL7,Bool.or_true]
        · simp only[setL]
          rw[hL7,Bool.or_true]
    · intro L V H' O' hI hall
      obtain⟨b,cap,sp,b1,b2,h1,h2,h3,h4',h5⟩:=hI.sp 9 (hall 9 (by decide))
      conv=>whnf
      refine⟨_,⟨rfl,rfl,_,_,_,.inr h1,rfl⟩,?_⟩
      conv=>whnf
      exact .inr ⟨rfl,b,cap,sp,b4,b6,b1,b2,rfl,h3,hI.sub _ _ h4,hI.sub _ _ h6,h4',h5⟩
theorem d53 (m : Bool) (H:PH):Cl Tryz.prog 53 [.bool m] H emp fun r H' _=>CircH H' r (bellC m):=
  (d53o m H).repart fun r H' M' _ hd h=>by
    rcases h with h | ⟨rfl,b,cap,sp,b4,b6,b1,b2,rfl,hO,h4,h6,h1,h2⟩
    · exact⟨H',M',.refl hd,h⟩
    · have rp:=Repart.one hd hO
      refine⟨_,_,rp,.slice (some ⟨b,0,none⟩) 4 cap,rfl,gates_of [[.int .i64 4,sl b4 1,.int .i64 0,.int .i64 0],[.int .i64 9,sl b6 2,.int .i64 0,.int .i64 0],[.int .i64 13,sl b1 1,.int .i64 0,.int .i64 0],[.int .i64 13,sl b2 1,.int .i64 1,.int .i64 0]] sp (ins_same _ _ _) rfl rfl fun i g c hg hc=>?_⟩
      match i with
      | 0=>cases hg;cases hc;exact⟨_,rfl,ints_c (rp.sub _ _ h4)⟩
      | 1=>cases hg;cases hc;exact⟨_,rfl,ints_c (rp.sub _ _ h6)⟩
      | 2=>cases hg;cases hc;exact⟨_,rfl,ints_c (rp.sub _ _ h1)⟩
      | 3=>cases hg;cases hc;exact⟨_,rfl,ints_c (rp.sub _ _ h2)⟩
end Go.Proofs.YtmhnalikebkhjaaGreatDoor

namespace Go.Proofs.YtmhnalikebkhjaaGreatDoor
open Go.Proofs.YtmhnalikebkhjaaGreatDoor.X Go.Proofs.YtmhnalikebkhjaaGreatDoor.X.PH
set_option maxRecDepth 100000
abbrev n1 : P4 × Int:=(⟨1,0,0,0⟩,0)
abbrev n0 : P4 × Int:=(⟨0,0,0,0⟩,0)
abbrev nr : P4 × Int:=(⟨1,0,0,0⟩,1)
abbrev nh : P4 × Int:=(⟨1,0,0,0⟩,2)
abbrev g1 (k : Int):Gt:=⟨k,[0],0,0⟩
theorem ex_zero : basisI 2 0=([n1,n0,n0,n0],0):=by kernel_rfl
theorem ex_run : runR (bellC true) [n1,n0,n0,n0]=([⟨[0,0],0,[nr,n0,n0,n0]⟩,⟨[1,1],3,[n0,n0,n0,nr]⟩],0):=by kernel_rfl
theorem ex_along : alongR (bellC false) [n1,n0,n0,n0] []=(⟨[],0,[nr,n0,n0,nr]⟩,0):=by kernel_rfl
theorem ex_bits : bitsR (bellC true) [n1,n0,n0,n0]=([nh,n0,n0,nh],0):=by kernel_rfl
theorem ex_odds : oddsV [nr,n0,n0,nr] 0=(nh,0):=by kernel_rfl
theorem ex_reset : runR ⟨1,0,[g1 4,g1 14]⟩ [n1,n0]=([⟨[0],0,[nr,n0]⟩,⟨[1],0,[nr,n0]⟩],0):=by kernel_rfl
theorem ex_if : runR ⟨1,1,[g1 4,g1 13,⟨1,[0],0,1⟩]⟩ [n1,n0]=([⟨[0],0,[nr,n0]⟩,⟨[1],1,[nr,n0]⟩],0):=by kernel_rfl
theorem ex_eq : equalC ⟨1,0,[g1 1,g1 3]⟩ ⟨1,0,[g1 2]⟩=(2,0):=by kernel_rfl
theorem ex_ne : (equalC ⟨1,0,[g1 4]⟩ ⟨1,0,[g1 1]⟩).2=6:=by kernel_rfl
end Go.Proofs.YtmhnalikebkhjaaGreatDoor

namespace Go.Proofs.YtmhnalikebkhjaaGreatDoor
open Go.Proofs.YtmhnalikebkhjaaGreatDoor.X Go.Proofs.YtmhnalikebkhjaaGreatDoor.X.PH
set_option maxRecDepth 100000
def polAw : Tmp→Pol:=fun | 46=>.imm | 51=>.imm | 53=>.imm | 55=>.imm | 59=>.imm | 64=>.imm | 66=>.imm | 68=>.imm | 70=>.imm | 74=>.imm | 79=>.imm | 81=>.imm | 83=>.imm | 85=>.imm | 87=>.imm | 93=>.imm | 95=>.imm | 97=>.imm | 99=>.imm | 159=>.imm | 166=>.imm | 174=>.imm | 197=>.imm | 216=>.imm | 226=>.imm | 236=>.imm | _=>.loc
def GlobH (H : PH):Prop:=Rd H emp ⟨0,0,none⟩ 5 [.int .i64 1,.int .i64 0,.int .i64 0,.int .i64 0,.int .i64 1]∧Rd H emp ⟨1,0,none⟩ 5 [.int .i64 1,.int .i64 0,.int .i64 0,.int .i64 0,.int .i64 2]
theorem GlobH.up {H H' : PH} (h:GlobH H) (hs:Sub H H'):GlobH H':=⟨Rd_up h.1 hs,Rd_up h.2 hs⟩
theorem d16r (c : Ct) (v:Vec) (gs:Value) (hfit:c.fit) (hv:v.length≤100000) (H:PH) (y:Value) (hx:GatesH H gs c.gates) (hy:NumH H y v):Cl Tryz.prog 16 [cv c gs,y] H emp fun r H' _=>OutBs H' r (runR c v):=
  Cl.outBs ((d16 c v gs hfit hv H y hx hy).mono fun _ _ _ _ ⟨u,cs,e,h1,h2⟩=>⟨u,cs,e,h1,h2.brs⟩)
theorem brs2 {H : PH} {u:Value} {b0 b1:Br} (h:BrsH H u [b0,b1]):∃ b off cap ov0 sv0 ov1 sv1,u=.slice (some ⟨b,off,none⟩) 2 cap∧IntsC H ov0 b0.outs∧NumH H sv0 b0.state∧IntsC H ov1 b1.outs∧NumH H sv1 b1.state ∧
    (∀ H' O,Sub H H'→Rd H' O ⟨b,off,none⟩ 3 [ov0,.int .i64 b0.bits,sv0])∧∀ H' O,Sub H H'→Rd H' O ⟨b,off+3,none⟩ 3 [ov1,.int .i64 b1.bits,sv1]:=by
  obtain⟨cs,h1,h2,h3⟩:=h
  match cs,h2 with
  | [c0,c1],_=>
    obtain⟨ov0,sv0,rfl,a1,a2⟩:=h3 0 _ _ rfl rfl
    obtain⟨ov1,sv1,rfl,a3,a4⟩:=h3 1 _ _ rfl rfl
    obtain⟨ub,uc,rfl⟩:=h1.sl
    obtain⟨b,off,rfl,r0⟩:=h1.rd (i:=0) (by simp)
    obtain⟨b',off',e,r1⟩:=h1.rd (i:=1) (by simp)
    cases e
    refine⟨b,off,uc,ov0,sv0,ov1,sv1,rfl,a1,a2,a3,a4,fun H' O hs=>?_,fun H' O hs=>?_⟩
    · have:=r0 H' O hs
      simpa using this
    · have:=r1 H' O hs
      simpa using this
theorem c48t (l m : Vec) (h:eqL l m=true) (hlen:l.length < 9223372036854775808) (H:PH) (u v:Value) (hu:NumH H u l) (hv:NumH H v m):Cl Tryz.prog 21 [u,v] H emp fun r _ _=>r=.bool true:=by
  rw[← h]
  exact c48 l m H u v hu hv hlen
theorem c25t (l m : List Int) (h:l=m) (hlen:l.length < 9223372036854775808) (H:PH) (u v:Value) (hu:IntsH H u l) (hv:IntsH H v m):Cl Tryz.prog 23 [u,v] H emp fun r _ _=>r=.bool true:=by
  have:=c25 l m hlen H u v hu hv
  rwa [decide_eq_true h] at this
theorem rdu3 {H H1 : PH} {a:Addr} {cs:List Value} (h:∀ H' O,Sub H H'→Rd H' O a 3 cs) (hs:Sub H H1):∀ H' O,Sub H1 H'→Rd H' O a 3 cs:=fun H' O h'=>h H' O (hs.trans h')
theorem fit_of {c : Ct} (h1:c.gates.length≤100) (h2:(c.gates.all fun g=>decide (g.ws.length≤100))=true):c.fit:=⟨by omega,fun g hg=>by
  have:=List.all_eq_true.1 h2 g hg
  have:=of_decide_eq_true this
  omega⟩
set_option maxHeartbeats 8000000 in
theorem d9 (H : PH) (hG:GlobH H):Cl Tryz.prog 9 [] H emp fun r _ _=>r=.bool true:=by
  refine Cl_of (pol:=polAw) Γok Tryz.func9 (by kernel_rfl) rfl ?_
  conv=>whnf
  refine (d45 2 0 _).use fun r H1 s1 hr=>?_
  obtain⟨_,zv,rfl,hz⟩:=hr
  rw[ex_zero] at hz ⊢
  obtain⟨zb,zc,rfl,_⟩:=id hz
  have t1:=s1
  replace hG:=GlobH.up hG t1
  conv=>whnf
  refine (d53 true _).use fun r H2 s2 hr=>?_
  obtain⟨_,ga,rfl,hga⟩:=hr
  obtain⟨gab,gac,rfl⟩:=hga.sl
  have t2:=s2
  replace hG:=GlobH.up hG t2
  replace hz:=NumH.up hz t2
  conv=>whnf
  refine (d16r (bellC true) [n1,n0,n0,n0] _ (fit_of (by decide) (by decide)) (by simp) _ _ (GatesH.up hga (Sub.refl _)) (NumH.up hz (Sub.refl _))).use fun r H3 s3 hr=>?_
  obtain⟨_,l,rfl,hl⟩:=hr
  rw[ex_run] at hl ⊢
  obtain⟨lb,lo,lc,lp,lq,lr,ls,rfl,l1,l2,l3,l4,l5,l6⟩:=brs2 hl
  have t3:=s3
  replace hG:=GlobH.up hG t3
  replace hz:=NumH.up hz t3
  replace hga:=GatesH.up hga t3
  obtain⟨lpb,lpc,rfl,_⟩:=id l1
  obtain⟨lrb,lrc,rfl,_⟩:=id l3
  obtain⟨lqb,lqc,rfl,_⟩:=id l2
  obtain⟨lsb,lsc,rfl,_⟩:=id l4
  conv=>whnf
  refine (d53 false _).use fun r H4 s4 hr=>?_
  obtain⟨_,gb,rfl,hgb⟩:=hr
  obtain⟨gbb,gbc,rfl⟩:=hgb.sl
  have t4:=s4
  replace hG:=GlobH.up hG t4
  replace hz:=NumH.up hz t4
  replace hga:=GatesH.up hga t4
  replace l1:=IntsC.up l1 t4
  replace l2:=NumH.up l2 t4
  replace l3:=IntsC.up l3 t4
  replace l4:=NumH.up l4 t4
  replace l5:=rdu3 l5 t4
  replace l6:=rdu3 l6 t4
  conv=>whnf
  refine (d17 (bellC false) [n1,n0,n0,n0] [] _ (fit_of (by decide) (by decide)) (by simp) (by simp) _ _ _ (GatesH.up hgb (Sub.refl _)) (NumH.up hz (Sub.refl _)) (IntsC.nil _)).use fun r H5 s5 hr=>?_
  obtain⟨_,vc,rfl,hvc⟩:=hr
  rw[ex_along] at hvc ⊢
  obtain⟨vo,vs,rfl,hv1,hv2⟩:=hvc.c
  obtain⟨vob,voc,rfl,_⟩:=id hv1
  obtain⟨vsb,vsc,rfl,_⟩:=id hv2
  have t5:=s5
  replace hG:=GlobH.up hG t5
  replace hz:=NumH.up hz t5
  replace hga:=GatesH.up hga t5
  replace l1:=IntsC.up l1 t5
  replace l2:=NumH.up l2 t5
  replace l3:=IntsC.up l3 t5
  replace l4:=NumH.up l4 t5
  replace l5:=rdu3 l5 t5
  replace l6:=rdu3 l6 t5
  replace hgb:=GatesH.up hgb t5
  conv=>whnf
  intro b5
  conv=>whnf
  refine (d53 true _).use fun r H6 s6 hr=>?_
  obtain⟨_,gc,rfl,hgc⟩:=hr
  obtain⟨gcb,gcc,rfl⟩:=hgc.sl
  have t6:=s6
  replace hG:=GlobH.up hG t6
  replace hz:=NumH.up hz t6
  replace hga:=GatesH.up hga t6
  replace l1:=IntsC.up l1 t6
  replace l2:=NumH.up l2 t6
  replace l3:=IntsC.up l3 t6
  replace l4:=NumH.up l4 t6
  replace l5:=rdu3 l5 t6
  replace l6:=rdu3 l6 t6
  replace hgb:=GatesH.up hgb t6
  replace hv2:=NumH.up hv2 t6
  conv=>whnf
  refine (d18 (bellC true) [n1,n0,n0,n0] _ (fit_of (by decide) (by decide)) (by simp) _ _ (GatesH.up hgc (Sub.refl _)) (NumH.up hz (Sub.refl _))).use fun r H7 s7 hr=>?_
  obtain⟨_,bv,rfl,hbv⟩:=hr
  rw[ex_bits] at hbv ⊢
  obtain⟨bvb,bvc,rfl,_⟩:=id hbv
  have t7:=s7
  replace hG:=GlobH.up hG t7
  replace hz:=NumH.up hz t7
  replace hga:=GatesH.up hga t7
  replace l1:=IntsC.up l1 t7
  replace l2:=NumH.up l2 t7
  replace l3:=IntsC.up l3 t7
  replace l4:=NumH.up l4 t7
  replace l5:=rdu3 l5 t7
  replace l6:=rdu3 l6 t7
  replace hgb:=GatesH.up hgb t7
  replace hv2:=NumH.up hv2 t7
  replace hgc:=GatesH.up hgc t7
  conv=>whnf
  refine⟨_,Rd.anyO (O:=emp) (GlobH.up hG (Sub.refl _)).1,?_⟩
  conv=>whnf
  refine⟨_,Rd.anyO (O:=emp) (GlobH.up hG (Sub.refl _)).1,?_⟩
  conv=>whnf
  intro b8 hb8 kb8
  conv=>whnf
  refine (d29 [nr,n0,n0,nr] 0 (by simp) _ _ (quad_num (ins_same _ _ _))).val fun H9 s9=>?_
  have t9:=((sub_ins _ _ hb8).trans s9)
  replace hG:=GlobH.up hG t9
  replace hz:=NumH.up hz t9
  replace hga:=GatesH.up hga t9
  replace l1:=IntsC.up l1 t9
  replace l2:=NumH.up l2 t9
  replace l3:=IntsC.up l3 t9
  replace l4:=NumH.up l4 t9
  replace l5:=rdu3 l5 t9
  replace l6:=rdu3 l6 t9
  replace hgb:=GatesH.up hgb t9
  replace hv2:=NumH.up hv2 t9
  replace hgc:=GatesH.up hgc t9
  replace hbv:=NumH.up hbv t9
  rw[ex_odds]
  conv=>whnf
  intro b9
  conv=>whnf
  intro b10 hb10 kb10
  conv=>whnf
  refine (d51 4 _ [0] _ (ints_c (ins_same _ _ _))).val fun H11 s11=>?_
  have t11:=((sub_ins _ _ hb10).trans s11)
  replace hG:=GlobH.up hG t11
  replace hz:=NumH.up hz t11
  replace hga:=GatesH.up hga t11
  replace l1:=IntsC.up l1 t11
  replace l2:=NumH.up l2 t11
  replace l3:=IntsC.up l3 t11
  replace l4:=NumH.up l4 t11
  replace l5:=rdu3 l5 t11
  replace l6:=rdu3 l6 t11
  replace hgb:=GatesH.up hgb t11
  replace hv2:=NumH.up hv2 t11
  replace hgc:=GatesH.up hgc t11
  replace hbv:=NumH.up hbv t11
  have wb10:=t11
  have ib10:IntsC H11 (sl b10 1) [0]:=ints_c (s11 _ _ (ins_same _ _ _))
  conv=>whnf
  intro b12 hb12 kb12
  conv=>whnf
  refine (d51 14 _ [0] _ (ints_c (ins_same _ _ _))).val fun H13 s13=>?_
  have t13:=((sub_ins _ _ hb12).trans s13)
  replace hG:=GlobH.up hG t13
  replace hz:=NumH.up hz t13
  replace hga:=GatesH.up hga t13
  replace l1:=IntsC.up l1 t13
  replace l2:=NumH.up l2 t13
  replace l3:=IntsC.up l3 t13
  replace l4:=NumH.up l4 t13
  replace l5:=rdu3 l5 t13
  replace l6:=rdu3 l6 t13
  replace hgb:=GatesH.up hgb t13
  replace hv2:=NumH.up hv2 t13
  replace hgc:=GatesH.up hgc t13
  replace hbv:=NumH.up hbv t13
  replace ib10:=IntsC.up ib10 t13
  have wb12:=t13
  have ib12:IntsC H13 (sl b12 1) [0]:=ints_c (s13 _ _ (ins_same _ _ _))
  conv=>whnf
  intro b14 hb14 kb14
  conv=>whnf
  refine (d52 1 _ [g1 4,g1 14] _ (gates2 (g1:=g1 4) (g2:=g1 14) (ins_same _ _ _) (IntsC.up ib10 (sub_ins _ _ hb14)) (IntsC.up ib12 (sub_ins _ _ hb14)))).val fun H15 s15=>?_
  have t15:=((sub_ins _ _ hb14).trans s15)
  replace hG:=GlobH.up hG t15
  replace hz:=NumH.up hz t15
  replace hga:=GatesH.up hga t15
  replace l1:=IntsC.up l1 t15
  replace l2:=NumH.up l2 t15
  replace l3:=IntsC.up l3 t15
  replace l4:=NumH.up l4 t15
  replace l5:=rdu3 l5 t15
  replace l6:=rdu3 l6 t15
  replace hgb:=GatesH.up hgb t15
  replace hv2:=NumH.up hv2 t15
  replace hgc:=GatesH.up hgc t15
  replace hbv:=NumH.up hbv t15
  replace ib10:=IntsC.up ib10 t15
  replace ib12:=IntsC.up ib12 t15
  have ggr:GatesH H15 (sl b14 2) [g1 4,g1 14]:=gates2 (g1:=g1 4) (g2:=g1 14) (s15 _ _ (ins_same _ _ _)) ib10 ib12
  conv=>whnf
  intro b16 hb16 kb16
  conv=>whnf
  refine (d16r ⟨1,0,[g1 4,g1 14]⟩ [n1,n0] _ (fit_of (by decide) (by decide)) (by simp) _ _ (GatesH.up ggr (sub_ins _ _ hb16)) (pair_num (x:=n1) (y:=n0) (ins_same _ _ _))).use fun r H17 s17 hr=>?_
  obtain⟨_,r,rfl,hr⟩:=hr
  rw[ex_reset] at hr ⊢
  obtain⟨rb,ro,rc,rp,rq,rr,rs,rfl,r1,r2,r3,r4,r5,r6⟩:=brs2 hr
  have t17:=((sub_ins _ _ hb16).trans s17)
  replace hG:=GlobH.up hG t17
  replace hz:=NumH.up hz t17
  replace hga:=GatesH.up hga t17
  replace l1:=IntsC.up l1 t17
  replace l2:=NumH.up l2 t17
  replace l3:=IntsC.up l3 t17
  replace l4:=NumH.up l4 t17
  replace l5:=rdu3 l5 t17
  replace l6:=rdu3 l6 t17
  replace hgb:=GatesH.up hgb t17
  replace hv2:=NumH.up hv2 t17
  replace hgc:=GatesH.up hgc t17
  replace hbv:=NumH.up hbv t17
  replace ib10:=IntsC.up ib10 t17
  replace ib12:=IntsC.up ib12 t17
  replace ggr:=GatesH.up ggr t17
  obtain⟨rpb,rpc,rfl,_⟩:=id r1
  obtain⟨rrb,rrc,rfl,_⟩:=id r3
  obtain⟨rqb,rqc,rfl,_⟩:=id r2
  obtain⟨rsb,rsc,rfl,_⟩:=id r4
  conv=>whnf
  intro b18 hb18 kb18
  conv=>whnf
  refine (d51 4 _ [0] _ (ints_c (ins_same _ _ _))).val fun H19 s19=>?_
  have t19:=((sub_ins _ _ hb18).trans s19)
  replace hG:=GlobH.up hG t19
  replace hz:=NumH.up hz t19
  replace hga:=GatesH.up hga t19
  replace l1:=IntsC.up l1 t19
  replace l2:=NumH.up l2 t19
  replace l3:=IntsC.up l3 t19
  replace l4:=NumH.up l4 t19
  replace l5:=rdu3 l5 t19
  replace l6:=rdu3 l6 t19
  replace hgb:=GatesH.up hgb t19
  replace hv2:=NumH.up hv2 t19
  replace hgc:=GatesH.up hgc t19
  replace hbv:=NumH.up hbv t19
  replace r1:=IntsC.up r1 t19
  replace r2:=NumH.up r2 t19
  replace r3:=IntsC.up r3 t19
  replace r4:=NumH.up r4 t19
  replace r5:=rdu3 r5 t19
  replace r6:=rdu3 r6 t19
  have wb18:=t19
  have ib18:IntsC H19 (sl b18 1) [0]:=ints_c (s19 _ _ (ins_same _ _ _))
  conv=>whnf
  intro b20 hb20 kb20
  conv=>whnf
  refine (d51 13 _ [0] _ (ints_c (ins_same _ _ _))).val fun H21 s21=>?_
  have t21:=((sub_ins _ _ hb20).trans s21)
  replace hG:=GlobH.up hG t21
  replace hz:=NumH.up hz t21
  replace hga:=GatesH.up hga t21
  replace l1:=IntsC.up l1 t21
  replace l2:=NumH.up l2 t21
  replace l3:=IntsC.up l3 t21
  replace l4:=NumH.up l4 t21
  replace l5:=rdu3 l5 t21
  replace l6:=rdu3 l6 t21
  replace hgb:=GatesH.up hgb t21
  replace hv2:=NumH.up hv2 t21
  replace hgc:=GatesH.up hgc t21
  replace hbv:=NumH.up hbv t21
  replace r1:=IntsC.up r1 t21
  replace r2:=NumH.up r2 t21
  replace r3:=IntsC.up r3 t21
  replace r4:=NumH.up r4 t21
  replace r5:=rdu3 r5 t21
  replace r6:=rdu3 r6 t21
  replace ib18:=IntsC.up ib18 t21
  have wb20:=t21
  have ib20:IntsC H21 (sl b20 1) [0]:=ints_c (s21 _ _ (ins_same _ _ _))
  conv=>whnf
  intro b22 hb22 kb22
  conv=>whnf
  intro b23 hb23 kb23
  conv=>whnf
  intro b24 hb24 kb24
  conv=>whnf
  refine (d16r ⟨1,1,[g1 4,g1 13,⟨1,[0],0,1⟩]⟩ [n1,n0] _ (fit_of (by decide) (by decide)) (by simp) _ _ (GatesH.up (gates3 (g1:=g1 4) (g2:=g1 13) (g3:=⟨1,[0],0,1⟩) (ins_same _ _ _) (IntsC.up ib18 ((sub_ins _ _ hb22).trans (sub_ins _ _ hb23))) (IntsC.up ib20 ((sub_ins _ _ hb22).trans (sub_ins _ _ hb23))) (IntsC.up (ints_c (ins_same _ _ _)) (sub_ins _ _ hb23))) (sub_ins _ _ hb24)) (pair_num (x:=n1) (y:=n0) (ins_same _ _ _))).use fun r H25 s25 hr=>?_
  obtain⟨_,q,rfl,hq⟩:=hr
  rw[ex_if] at hq ⊢
  obtain⟨qb,qo,qc,qp,qq,qr,qs,rfl,q1,q2,q3,q4,q5,q6⟩:=brs2 hq
  have t25:=((sub_ins _ _ hb22).trans ((sub_ins _ _ hb23).trans ((sub_ins _ _ hb24).trans s25)))
  replace hG:=GlobH.up hG t25
  replace hz:=NumH.up hz t25
  replace hga:=GatesH.up hga t25
  replace l1:=IntsC.up l1 t25
  replace l2:=NumH.up l2 t25
  replace l3:=IntsC.up l3 t25
  replace l4:=NumH.up l4 t25
  replace l5:=rdu3 l5 t25
  replace l6:=rdu3 l6 t25
  replace hgb:=GatesH.up hgb t25
  replace hv2:=NumH.up hv2 t25
  replace hgc:=GatesH.up hgc t25
  replace hbv:=NumH.up hbv t25
  replace r1:=IntsC.up r1 t25
  replace r2:=NumH.up r2 t25
  replace r3:=IntsC.up r3 t25
  replace r4:=NumH.up r4 t25
  replace r5:=rdu3 r5 t25
  replace r6:=rdu3 r6 t25
  replace ib18:=IntsC.up ib18 t25
  replace ib20:=IntsC.up ib20 t25
  obtain⟨qpb,qpc,rfl,_⟩:=id q1
  obtain⟨qrb,qrc,rfl,_⟩:=id q3
  obtain⟨qqb,qqc,rfl,_⟩:=id q2
  obtain⟨qsb,qsc,rfl,_⟩:=id q4
  conv=>whnf
  intro b26 hb26 kb26
  conv=>whnf
  refine (d51 1 _ [0] _ (ints_c (ins_same _ _ _))).val fun H27 s27=>?_
  have t27:=((sub_ins _ _ hb26).trans s27)
  replace hG:=GlobH.up hG t27
  replace hz:=NumH.up hz t27
  replace hga:=GatesH.up hga t27
  replace l1:=IntsC.up l1 t27
  replace l2:=NumH.up l2 t27
  replace l3:=IntsC.up l3 t27
  replace l4:=NumH.up l4 t27
  replace l5:=rdu3 l5 t27
  replace l6:=rdu3 l6 t27
  replace hgb:=GatesH.up hgb t27
  replace hv2:=NumH.up hv2 t27
  replace hgc:=GatesH.up hgc t27
  replace hbv:=NumH.up hbv t27
  replace r1:=IntsC.up r1 t27
  replace r2:=NumH.up r2 t27
  replace r3:=IntsC.up r3 t27
  replace r4:=NumH.up r4 t27
  replace r5:=rdu3 r5 t27
  replace r6:=rdu3 r6 t27
  replace q1:=IntsC.up q1 t27
  replace q2:=NumH.up q2 t27
  replace q3:=IntsC.up q3 t27
  replace q4:=NumH.up q4 t27
  replace q5:=rdu3 q5 t27
  replace q6:=rdu3 q6 t27
  have wb26:=t27
  have ib26:IntsC H27 (sl b26 1) [0]:=ints_c (s27 _ _ (ins_same _ _ _))
  conv=>whnf
  intro b28 hb28 kb28
  conv=>whnf
  refine (d51 3 _ [0] _ (ints_c (ins_same _ _ _))).val fun H29 s29=>?_
  have t29:=((sub_ins _ _ hb28).trans s29)
  replace hG:=GlobH.up hG t29
  replace hz:=NumH.up hz t29
  replace hga:=GatesH.up hga t29
  replace l1:=IntsC.up l1 t29
  replace l2:=NumH.up l2 t29
  replace l3:=IntsC.up l3 t29
  replace l4:=NumH.up l4 t29
  replace l5:=rdu3 l5 t29
  replace l6:=rdu3 l6 t29
  replace hgb:=GatesH.up hgb t29
  replace hv2:=NumH.up hv2 t29
  replace hgc:=GatesH.up hgc t29
  replace hbv:=NumH.up hbv t29
  replace r1:=IntsC.up r1 t29
  replace r2:=NumH.up r2 t29
  replace r3:=IntsC.up r3 t29
  replace r4:=NumH.up r4 t29
  replace r5:=rdu3 r5 t29
  replace r6:=rdu3 r6 t29
  replace q1:=IntsC.up q1 t29
  replace q2:=NumH.up q2 t29
  replace q3:=IntsC.up q3 t29
  replace q4:=NumH.up q4 t29
  replace q5:=rdu3 q5 t29
  replace q6:=rdu3 q6 t29
  replace ib26:=IntsC.up ib26 t29
  have wb28:=t29
  have ib28:IntsC H29 (sl b28 1) [0]:=ints_c (s29 _ _ (ins_same _ _ _))
  conv=>whnf
  intro b30 hb30 kb30
  conv=>whnf
  refine (d52 1 _ [g1 1,g1 3] _ (gates2 (g1:=g1 1) (g2:=g1 3) (ins_same _ _ _) (IntsC.up ib26 (sub_ins _ _ hb30)) (IntsC.up ib28 (sub_ins _ _ hb30)))).val fun H31 s31=>?_
  have t31:=((sub_ins _ _ hb30).trans s31)
  replace hG:=GlobH.up hG t31
  replace hz:=NumH.up hz t31
  replace hga:=GatesH.up hga t31
  replace l1:=IntsC.up l1 t31
  replace l2:=NumH.up l2 t31
  replace l3:=IntsC.up l3 t31
  replace l4:=NumH.up l4 t31
  replace l5:=rdu3 l5 t31
  replace l6:=rdu3 l6 t31
  replace hgb:=GatesH.up hgb t31
  replace hv2:=NumH.up hv2 t31
  replace hgc:=GatesH.up hgc t31
  replace hbv:=NumH.up hbv t31
  replace r1:=IntsC.up r1 t31
  replace r2:=NumH.up r2 t31
  replace r3:=IntsC.up r3 t31
  replace r4:=NumH.up r4 t31
  replace r5:=rdu3 r5 t31
  replace r6:=rdu3 r6 t31
  replace q1:=IntsC.up q1 t31
  replace q2:=NumH.up q2 t31
  replace q3:=IntsC.up q3 t31
  replace q4:=NumH.up q4 t31
  replace q5:=rdu3 q5 t31
  replace q6:=rdu3 q6 t31
  replace ib26:=IntsC.up ib26 t31
  replace ib28:=IntsC.up ib28 t31
  have gd:GatesH H31 (sl b30 2) [g1 1,g1 3]:=gates2 (g1:=g1 1) (g2:=g1 3) (s31 _ _ (ins_same _ _ _)) ib26 ib28
  conv=>whnf
  intro b32 hb32 kb32
  conv=>whnf
  refine (d51 2 _ [0] _ (ints_c (ins_same _ _ _))).val fun H33 s33=>?_
  have t33:=((sub_ins _ _ hb32).trans s33)
  replace hG:=GlobH.up hG t33
  replace hz:=NumH.up hz t33
  replace hga:=GatesH.up hga t33
  replace l1:=IntsC.up l1 t33
  replace l2:=NumH.up l2 t33
  replace l3:=IntsC.up l3 t33
  replace l4:=NumH.up l4 t33
  replace l5:=rdu3 l5 t33
  replace l6:=rdu3 l6 t33
  replace hgb:=GatesH.up hgb t33
  replace hv2:=NumH.up hv2 t33
  replace hgc:=GatesH.up hgc t33
  replace hbv:=NumH.up hbv t33
  replace r1:=IntsC.up r1 t33
  replace r2:=NumH.up r2 t33
  replace r3:=IntsC.up r3 t33
  replace r4:=NumH.up r4 t33
  replace r5:=rdu3 r5 t33
  replace r6:=rdu3 r6 t33
  replace q1:=IntsC.up q1 t33
  replace q2:=NumH.up q2 t33
  replace q3:=IntsC.up q3 t33
  replace q4:=NumH.up q4 t33
  replace q5:=rdu3 q5 t33
  replace q6:=rdu3 q6 t33
  replace gd:=GatesH.up gd t33
  have wb32:=t33
  have ib32:IntsC H33 (sl b32 1) [0]:=ints_c (s33 _ _ (ins_same _ _ _))
  conv=>whnf
  intro b34 hb34 kb34
  conv=>whnf
  refine (d52 1 _ [g1 2] _ (gates1 (g1:=g1 2) (ins_same _ _ _) (IntsC.up ib32 (sub_ins _ _ hb34)))).val fun H35 s35=>?_
  have t35:=((sub_ins _ _ hb34).trans s35)
  replace hG:=GlobH.up hG t35
  replace hz:=NumH.up hz t35
  replace hga:=GatesH.up hga t35
  replace l1:=IntsC.up l1 t35
  replace l2:=NumH.up l2 t35
  replace l3:=IntsC.up l3 t35
  replace l4:=NumH.up l4 t35
  replace l5:=rdu3 l5 t35
  replace l6:=rdu3 l6 t35
  replace hgb:=GatesH.up hgb t35
  replace hv2:=NumH.up hv2 t35
  replace hgc:=GatesH.up hgc t35
  replace hbv:=NumH.up hbv t35
  replace r1:=IntsC.up r1 t35
  replace r2:=NumH.up r2 t35
  replace r3:=IntsC.up r3 t35
  replace r4:=NumH.up r4 t35
  replace r5:=rdu3 r5 t35
  replace r6:=rdu3 r6 t35
  replace q1:=IntsC.up q1 t35
  replace q2:=NumH.up q2 t35
  replace q3:=IntsC.up q3 t35
  replace q4:=NumH.up q4 t35
  replace q5:=rdu3 q5 t35
  replace q6:=rdu3 q6 t35
  replace gd:=GatesH.up gd t35
  replace ib32:=IntsC.up ib32 t35
  have ge:GatesH H35 (sl b34 1) [g1 2]:=gates1 (g1:=g1 2) (s35 _ _ (ins_same _ _ _)) ib32
  conv=>whnf
  refine (d37 ⟨1,0,[g1 1,g1 3]⟩ ⟨1,0,[g1 2]⟩ (fit_of (by decide) (by decide)) (fit_of (by decide) (by decide)) _ _ _ ⟨_,rfl,(GatesH.up gd (Sub.refl _))⟩ ⟨_,rfl,(GatesH.up ge (Sub.refl _))⟩).val fun H36 s36=>?_
  have t36:=s36
  replace hG:=GlobH.up hG t36
  replace hz:=NumH.up hz t36
  replace hga:=GatesH.up hga t36
  replace l1:=IntsC.up l1 t36
  replace l2:=NumH.up l2 t36
  replace l3:=IntsC.up l3 t36
  replace l4:=NumH.up l4 t36
  replace l5:=rdu3 l5 t36
  replace l6:=rdu3 l6 t36
  replace hgb:=GatesH.up hgb t36
  replace hv2:=NumH.up hv2 t36
  replace hgc:=GatesH.up hgc t36
  replace hbv:=NumH.up hbv t36
  replace r1:=IntsC.up r1 t36
  replace r2:=NumH.up r2 t36
  replace r3:=IntsC.up r3 t36
  replace r4:=NumH.up r4 t36
  replace r5:=rdu3 r5 t36
  replace r6:=rdu3 r6 t36
  replace q1:=IntsC.up q1 t36
  replace q2:=NumH.up q2 t36
  replace q3:=IntsC.up q3 t36
  replace q4:=NumH.up q4 t36
  replace q5:=rdu3 q5 t36
  replace q6:=rdu3 q6 t36
  replace gd:=GatesH.up gd t36
  replace ge:=GatesH.up ge t36
  rw[ex_eq]
  conv=>whnf
  intro b37 hb37 kb37
  conv=>whnf
  refine (d51 4 _ [0] _ (ints_c (ins_same _ _ _))).val fun H38 s38=>?_
  have t38:=((sub_ins _ _ hb37).trans s38)
  replace hG:=GlobH.up hG t38
  replace hz:=NumH.up hz t38
  replace hga:=GatesH.up hga t38
  replace l1:=IntsC.up l1 t38
  replace l2:=NumH.up l2 t38
  replace l3:=IntsC.up l3 t38
  replace l4:=NumH.up l4 t38
  replace l5:=rdu3 l5 t38
  replace l6:=rdu3 l6 t38
  replace hgb:=GatesH.up hgb t38
  replace hv2:=NumH.up hv2 t38
  replace hgc:=GatesH.up hgc t38
  replace hbv:=NumH.up hbv t38
  replace r1:=IntsC.up r1 t38
  replace r2:=NumH.up r2 t38
  replace r3:=IntsC.up r3 t38
  replace r4:=NumH.up r4 t38
  replace r5:=rdu3 r5 t38
  replace r6:=rdu3 r6 t38
  replace q1:=IntsC.up q1 t38
  replace q2:=NumH.up q2 t38
  replace q3:=IntsC.up q3 t38
  replace q4:=NumH.up q4 t38
  replace q5:=rdu3 q5 t38
  replace q6:=rdu3 q6 t38
  have wb37:=t38
  have ib37:IntsC H38 (sl b37 1) [0]:=ints_c (s38 _ _ (ins_same _ _ _))
  conv=>whnf
  intro b39 hb39 kb39
  conv=>whnf
  refine (d52 1 _ [g1 4] _ (gates1 (g1:=g1 4) (ins_same _ _ _) (IntsC.up ib37 (sub_ins _ _ hb39)))).val fun H40 s40=>?_
  have t40:=((sub_ins _ _ hb39).trans s40)
  replace hG:=GlobH.up hG t40
  replace hz:=NumH.up hz t40
  replace hga:=GatesH.up hga t40
  replace l1:=IntsC.up l1 t40
  replace l2:=NumH.up l2 t40
  replace l3:=IntsC.up l3 t40
  replace l4:=NumH.up l4 t40
  replace l5:=rdu3 l5 t40
  replace l6:=rdu3 l6 t40
  replace hgb:=GatesH.up hgb t40
  replace hv2:=NumH.up hv2 t40
  replace hgc:=GatesH.up hgc t40
  replace hbv:=NumH.up hbv t40
  replace r1:=IntsC.up r1 t40
  replace r2:=NumH.up r2 t40
  replace r3:=IntsC.up r3 t40
  replace r4:=NumH.up r4 t40
  replace r5:=rdu3 r5 t40
  replace r6:=rdu3 r6 t40
  replace q1:=IntsC.up q1 t40
  replace q2:=NumH.up q2 t40
  replace q3:=IntsC.up q3 t40
  replace q4:=NumH.up q4 t40
  replace q5:=rdu3 q5 t40
  replace q6:=rdu3 q6 t40
  replace ib37:=IntsC.up ib37 t40
  have gd:GatesH H40 (sl b39 1) [g1 4]:=gates1 (g1:=g1 4) (s40 _ _ (ins_same _ _ _)) ib37
  conv=>whnf
  intro b41 hb41 kb41
  conv=>whnf
  refine (d51 1 _ [0] _ (ints_c (ins_same _ _ _))).val fun H42 s42=>?_
  have t42:=((sub_ins _ _ hb41).trans s42)
  replace hG:=GlobH.up hG t42
  replace hz:=NumH.up hz t42
  replace hga:=GatesH.up hga t42
  replace l1:=IntsC.up l1 t42
  replace l2:=NumH.up l2 t42
  replace l3:=IntsC.up l3 t42
  replace l4:=NumH.up l4 t42
  replace l5:=rdu3 l5 t42
  replace l6:=rdu3 l6 t42
  replace hgb:=GatesH.up hgb t42
  replace hv2:=NumH.up hv2 t42
  replace hgc:=GatesH.up hgc t42
  replace hbv:=NumH.up hbv t42
  replace r1:=IntsC.up r1 t42
  replace r2:=NumH.up r2 t42
  replace r3:=IntsC.up r3 t42
  replace r4:=NumH.up r4 t42
  replace r5:=rdu3 r5 t42
  replace r6:=rdu3 r6 t42
  replace q1:=IntsC.up q1 t42
  replace q2:=NumH.up q2 t42
  replace q3:=IntsC.up q3 t42
  replace q4:=NumH.up q4 t42
  replace q5:=rdu3 q5 t42
  replace q6:=rdu3 q6 t42
  replace gd:=GatesH.up gd t42
  have wb41:=t42
  have ib41:IntsC H42 (sl b41 1) [0]:=ints_c (s42 _ _ (ins_same _ _ _))
  conv=>whnf
  intro b43 hb43 kb43
  conv=>whnf
  refine (d52 1 _ [g1 1] _ (gates1 (g1:=g1 1) (ins_same _ _ _) (IntsC.up ib41 (sub_ins _ _ hb43)))).val fun H44 s44=>?_
  have t44:=((sub_ins _ _ hb43).trans s44)
  replace hG:=GlobH.up hG t44
  replace hz:=NumH.up hz t44
  replace hga:=GatesH.up hga t44
  replace l1:=IntsC.up l1 t44
  replace l2:=NumH.up l2 t44
  replace l3:=IntsC.up l3 t44
  replace l4:=NumH.up l4 t44
  replace l5:=rdu3 l5 t44
  replace l6:=rdu3 l6 t44
  replace hgb:=GatesH.up hgb t44
  replace hv2:=NumH.up hv2 t44
  replace hgc:=GatesH.up hgc t44
  replace hbv:=NumH.up hbv t44
  replace r1:=IntsC.up r1 t44
  replace r2:=NumH.up r2 t44
  replace r3:=IntsC.up r3 t44
  replace r4:=NumH.up r4 t44
  replace r5:=rdu3 r5 t44
  replace r6:=rdu3 r6 t44
  replace q1:=IntsC.up q1 t44
  replace q2:=NumH.up q2 t44
  replace q3:=IntsC.up q3 t44
  replace q4:=NumH.up q4 t44
  replace q5:=rdu3 q5 t44
  replace q6:=rdu3 q6 t44
  replace gd:=GatesH.up gd t44
  replace ib41:=IntsC.up ib41 t44
  have ge:GatesH H44 (sl b43 1) [g1 1]:=gates1 (g1:=g1 1) (s44 _ _ (ins_same _ _ _)) ib41
  conv=>whnf
  refine (d37 ⟨1,0,[g1 4]⟩ ⟨1,0,[g1 1]⟩ (fit_of (by decide) (by decide)) (fit_of (by decide) (by decide)) _ _ _ ⟨_,rfl,(GatesH.up gd (Sub.refl _))⟩ ⟨_,rfl,(GatesH.up ge (Sub.refl _))⟩).val fun H45 s45=>?_
  have t45:=s45
  replace hG:=GlobH.up hG t45
  replace hz:=NumH.up hz t45
  replace hga:=GatesH.up hga t45
  replace l1:=IntsC.up l1 t45
  replace l2:=NumH.up l2 t45
  replace l3:=IntsC.up l3 t45
  replace l4:=NumH.up l4 t45
  replace l5:=rdu3 l5 t45
  replace l6:=rdu3 l6 t45
  replace hgb:=GatesH.up hgb t45
  replace hv2:=NumH.up hv2 t45
  replace hgc:=GatesH.up hgc t45
  replace hbv:=NumH.up hbv t45
  replace r1:=IntsC.up r1 t45
  replace r2:=NumH.up r2 t45
  replace r3:=IntsC.up r3 t45
  replace r4:=NumH.up r4 t45
  replace r5:=rdu3 r5 t45
  replace r6:=rdu3 r6 t45
  replace q1:=IntsC.up q1 t45
  replace q2:=NumH.up q2 t45
  replace q3:=IntsC.up q3 t45
  replace q4:=NumH.up q4 t45
  replace q5:=rdu3 q5 t45
  replace q6:=rdu3 q6 t45
  replace gd:=GatesH.up gd t45
  replace ge:=GatesH.up ge t45
  rw[ex_ne]
  conv=>whnf
  refine W_draw (pol:=polAw) Γok mixes [(0,.pendO),(1,.pendO),(2,.pendO),(3,.pendO),(4,.pendO),(5,.pendO),(6,.lock),(7,.lock),(8,.pendO),(9,.pendO),(10,.pendO),(11,.pendO),(12,.pendO),(13,.lock),(14,.lock),(15,.pendO),(16,.pendO),(17,.pendO),(18,.pendO),(19,.pendO),(20,.pendO),(21,.lock),(22,.lock),(23,.pendO),(24,.pendO),(25,.pendO),(26,.pendO),(27,.pendO),(28,.pendO),(29,.pendO),(30,.pendO),(31,.pendO),(32,.pendO),(33,.pendO),(34,.pendO),(35,.pendO),(36,.pendO),(37,.pendO),(38,.pendO),(39,.pendO),(40,.pendO),(41,.pendO),(42,.pendO),(43,.pendO),(44,.lock),(45,.lock),(46,.pendO),(47,.pendO),(48,.pendO),(49,.pendO),(50,.pendO),(51,.pendO),(52,.pendO),(53,.pendO),(54,.pendO),(55,.pendO),(56,.pendO),(57,.pendO),(58,.pendO),(59,.pendO),(60,.pendO),(61,.pendO),(62,.pendO),(63,.lock),(64,.lock),(65,.pendO),(66,.pendO),(67,.pendO),(68,.pendO),(69,.pendO),(70,.pendO),(71,.pendO),(72,.pendO),(73,.lock),(74,.lock),(75,.pendO),(76,.pendO),(77,.pendO),(78,.pendO),(79,.pendO),(80,.pendO),(81,.pendO),(82,.pendO),(83,.lock),(84,.lock),(85,.pendO),(86,.pendO)] 239 (by kernel_rfl) rfl ?_
  conv=>whnf
  refine⟨_,Rd.anyO (O:=emp) (GlobH.up hG (Sub.refl _)).1,?_⟩
  conv=>whnf
  refine⟨_,Rd.anyO (O:=emp) (GlobH.up hG (Sub.refl _)).1,?_⟩
  conv=>whnf
  intro b46 hb46 kb46
  conv=>whnf
  refine (c48t [nr,n0,n0,nr] [nr,n0,n0,nr] (by kernel_rfl) (by simp) _ _ _ (NumH.up hv2 (sub_ins _ _ hb46)) (quad_num (ins_same _ _ _))).val fun H47 s47=>?_
  have t47:=((sub_ins _ _ hb46).trans s47)
  replace hG:=GlobH.up hG t47
  replace hz:=NumH.up hz t47
  replace hga:=GatesH.up hga t47
  replace l1:=IntsC.up l1 t47
  replace l2:=NumH.up l2 t47
  replace l3:=IntsC.up l3 t47
  replace l4:=NumH.up l4 t47
  replace l5:=rdu3 l5 t47
  replace l6:=rdu3 l6 t47
  replace hgb:=GatesH.up hgb t47
  replace hv2:=NumH.up hv2 t47
  replace hgc:=GatesH.up hgc t47
  replace hbv:=NumH.up hbv t47
  replace r1:=IntsC.up r1 t47
  replace r2:=NumH.up r2 t47
  replace r3:=IntsC.up r3 t47
  replace r4:=NumH.up r4 t47
  replace r5:=rdu3 r5 t47
  replace r6:=rdu3 r6 t47
  replace q1:=IntsC.up q1 t47
  replace q2:=NumH.up q2 t47
  replace q3:=IntsC.up q3 t47
  replace q4:=NumH.up q4 t47
  replace q5:=rdu3 q5 t47
  replace q6:=rdu3 q6 t47
  conv=>whnf
  refine⟨_,Rd_part (l5 _ _ (Sub.refl _)) 0 1 (by omega) rfl,?_⟩
  conv=>whnf
  intro b48 hb48 kb48
  conv=>whnf
  refine (c25t [0,0] [0,0] rfl (by simp) _ _ _ (IntsC.h (IntsC.up l1 (sub_ins _ _ hb48))) (IntsC.h (ints_c (ins_same _ _ _)))).val fun H49 s49=>?_
  have t49:=((sub_ins _ _ hb48).trans s49)
  replace hG:=GlobH.up hG t49
  replace hz:=NumH.up hz t49
  replace hga:=GatesH.up hga t49
  replace l1:=IntsC.up l1 t49
  replace l2:=NumH.up l2 t49
  replace l3:=IntsC.up l3 t49
  replace l4:=NumH.up l4 t49
  replace l5:=rdu3 l5 t49
  replace l6:=rdu3 l6 t49
  replace hgb:=GatesH.up hgb t49
  replace hv2:=NumH.up hv2 t49
  replace hgc:=GatesH.up hgc t49
  replace hbv:=NumH.up hbv t49
  replace r1:=IntsC.up r1 t49
  replace r2:=NumH.up r2 t49
  replace r3:=IntsC.up r3 t49
  replace r4:=NumH.up r4 t49
  replace r5:=rdu3 r5 t49
  replace r6:=rdu3 r6 t49
  replace q1:=IntsC.up q1 t49
  replace q2:=NumH.up q2 t49
  replace q3:=IntsC.up q3 t49
  replace q4:=NumH.up q4 t49
  replace q5:=rdu3 q5 t49
  replace q6:=rdu3 q6 t49
  conv=>whnf
  refine⟨_,Rd_part (l6 _ _ (Sub.refl _)) 0 1 (by omega) rfl,?_⟩
  conv=>whnf
  intro b50 hb50 kb50
  conv=>whnf
  refine (c25t [1,1] [1,1] rfl (by simp) _ _ _ (IntsC.h (IntsC.up l3 (sub_ins _ _ hb50))) (IntsC.h (ints_c (ins_same _ _ _)))).val fun H51 s51=>?_
  have t51:=((sub_ins _ _ hb50).trans s51)
  replace hG:=GlobH.up hG t51
  replace hz:=NumH.up hz t51
  replace hga:=GatesH.up hga t51
  replace l1:=IntsC.up l1 t51
  replace l2:=NumH.up l2 t51
  replace l3:=IntsC.up l3 t51
  replace l4:=NumH.up l4 t51
  replace l5:=rdu3 l5 t51
  replace l6:=rdu3 l6 t51
  replace hgb:=GatesH.up hgb t51
  replace hv2:=NumH.up hv2 t51
  replace hgc:=GatesH.up hgc t51
  replace hbv:=NumH.up hbv t51
  replace r1:=IntsC.up r1 t51
  replace r2:=NumH.up r2 t51
  replace r3:=IntsC.up r3 t51
  replace r4:=NumH.up r4 t51
  replace r5:=rdu3 r5 t51
  replace r6:=rdu3 r6 t51
  replace q1:=IntsC.up q1 t51
  replace q2:=NumH.up q2 t51
  replace q3:=IntsC.up q3 t51
  replace q4:=NumH.up q4 t51
  replace q5:=rdu3 q5 t51
  replace q6:=rdu3 q6 t51
  conv=>whnf
  refine⟨_,Rd_part (l5 _ _ (Sub.refl _)) 1 1 (by omega) rfl,?_⟩
  conv=>whnf
  refine⟨_,Rd_part (l6 _ _ (Sub.refl _)) 1 1 (by omega) rfl,?_⟩
  conv=>whnf
  refine⟨_,Rd.anyO (O:=emp) (GlobH.up hG (Sub.refl _)).2,?_⟩
  conv=>whnf
  refine⟨_,Rd.anyO (O:=emp) (GlobH.up hG (Sub.refl _)).2,?_⟩
  conv=>whnf
  intro b52 hb52 kb52
  conv=>whnf
  refine (c48t [nh,n0,n0,nh] [nh,n0,n0,nh] (by kernel_rfl) (by simp) _ _ _ (NumH.up hbv (sub_ins _ _ hb52)) (quad_num (ins_same _ _ _))).val fun H53 s53=>?_
  have t53:=((sub_ins _ _ hb52).trans s53)
  replace hG:=GlobH.up hG t53
  replace hz:=NumH.up hz t53
  replace hga:=GatesH.up hga t53
  replace l1:=IntsC.up l1 t53
  replace l2:=NumH.up l2 t53
  replace l3:=IntsC.up l3 t53
  replace l4:=NumH.up l4 t53
  replace l5:=rdu3 l5 t53
  replace l6:=rdu3 l6 t53
  replace hgb:=GatesH.up hgb t53
  replace hv2:=NumH.up hv2 t53
  replace hgc:=GatesH.up hgc t53
  replace hbv:=NumH.up hbv t53
  replace r1:=IntsC.up r1 t53
  replace r2:=NumH.up r2 t53
  replace r3:=IntsC.up r3 t53
  replace r4:=NumH.up r4 t53
  replace r5:=rdu3 r5 t53
  replace r6:=rdu3 r6 t53
  replace q1:=IntsC.up q1 t53
  replace q2:=NumH.up q2 t53
  replace q3:=IntsC.up q3 t53
  replace q4:=NumH.up q4 t53
  replace q5:=rdu3 q5 t53
  replace q6:=rdu3 q6 t53
  conv=>whnf
  refine⟨_,Rd.anyO (O:=emp) (GlobH.up hG (Sub.refl _)).2,?_⟩
  conv=>whnf
  refine⟨_,Rd_part (r6 _ _ (Sub.refl _)) 2 1 (by omega) rfl,?_⟩
  conv=>whnf
  refine⟨_,Rd.anyO (O:=emp) (GlobH.up hG (Sub.refl _)).1,?_⟩
  conv=>whnf
  intro b54 hb54 kb54
  conv=>whnf
  refine (c48t [nr,n0] [nr,n0] (by kernel_rfl) (by simp) _ _ _ (NumH.up r4 (sub_ins _ _ hb54)) (pair_num (x:=nr) (y:=n0) (ins_same _ _ _))).val fun H55 s55=>?_
  have t55:=((sub_ins _ _ hb54).trans s55)
  replace hG:=GlobH.up hG t55
  replace hz:=NumH.up hz t55
  replace hga:=GatesH.up hga t55
  replace l1:=IntsC.up l1 t55
  replace l2:=NumH.up l2 t55
  replace l3:=IntsC.up l3 t55
  replace l4:=NumH.up l4 t55
  replace l5:=rdu3 l5 t55
  replace l6:=rdu3 l6 t55
  replace hgb:=GatesH.up hgb t55
  replace hv2:=NumH.up hv2 t55
  replace hgc:=GatesH.up hgc t55
  replace hbv:=NumH.up hbv t55
  replace r1:=IntsC.up r1 t55
  replace r2:=NumH.up r2 t55
  replace r3:=IntsC.up r3 t55
  replace r4:=NumH.up r4 t55
  replace r5:=rdu3 r5 t55
  replace r6:=rdu3 r6 t55
  replace q1:=IntsC.up q1 t55
  replace q2:=NumH.up q2 t55
  replace q3:=IntsC.up q3 t55
  replace q4:=NumH.up q4 t55
  replace q5:=rdu3 q5 t55
  replace q6:=rdu3 q6 t55
  conv=>whnf
  refine⟨_,Rd_part (q5 _ _ (Sub.refl _)) 2 1 (by omega) rfl,?_⟩
  conv=>whnf
  refine⟨_,Rd.anyO (O:=emp) (GlobH.up hG (Sub.refl _)).1,?_⟩
  conv=>whnf
  intro b56 hb56 kb56
  conv=>whnf
  refine (c48t [nr,n0] [nr,n0] (by kernel_rfl) (by simp) _ _ _ (NumH.up q2 (sub_ins _ _ hb56)) (pair_num (x:=nr) (y:=n0) (ins_same _ _ _))).val fun H57 s57=>?_
  have t57:=((sub_ins _ _ hb56).trans s57)
  replace hG:=GlobH.up hG t57
  replace hz:=NumH.up hz t57
  replace hga:=GatesH.up hga t57
  replace l1:=IntsC.up l1 t57
  replace l2:=NumH.up l2 t57
  replace l3:=IntsC.up l3 t57
  replace l4:=NumH.up l4 t57
  replace l5:=rdu3 l5 t57
  replace l6:=rdu3 l6 t57
  replace hgb:=GatesH.up hgb t57
  replace hv2:=NumH.up hv2 t57
  replace hgc:=GatesH.up hgc t57
  replace hbv:=NumH.up hbv t57
  replace r1:=IntsC.up r1 t57
  replace r2:=NumH.up r2 t57
  replace r3:=IntsC.up r3 t57
  replace r4:=NumH.up r4 t57
  replace r5:=rdu3 r5 t57
  replace r6:=rdu3 r6 t57
  replace q1:=IntsC.up q1 t57
  replace q2:=NumH.up q2 t57
  replace q3:=IntsC.up q3 t57
  replace q4:=NumH.up q4 t57
  replace q5:=rdu3 q5 t57
  replace q6:=rdu3 q6 t57
  conv=>whnf
  refine⟨_,Rd_part (q6 _ _ (Sub.refl _)) 2 1 (by omega) rfl,?_⟩
  conv=>whnf
  refine⟨_,Rd.anyO (O:=emp) (GlobH.up hG (Sub.refl _)).1,?_⟩
  conv=>whnf
  intro b58 hb58 kb58
  conv=>whnf
  refine (c48t [nr,n0] [nr,n0] (by kernel_rfl) (by simp) _ _ _ (NumH.up q4 (sub_ins _ _ hb58)) (pair_num (x:=nr) (y:=n0) (ins_same _ _ _))).val fun H59 s59=>?_
  have t59:=((sub_ins _ _ hb58).trans s59)
  replace hG:=GlobH.up hG t59
  replace hz:=NumH.up hz t59
  replace hga:=GatesH.up hga t59
  replace l1:=IntsC.up l1 t59
  replace l2:=NumH.up l2 t59
  replace l3:=IntsC.up l3 t59
  replace l4:=NumH.up l4 t59
  replace l5:=rdu3 l5 t59
  replace l6:=rdu3 l6 t59
  replace hgb:=GatesH.up hgb t59
  replace hv2:=NumH.up hv2 t59
  replace hgc:=GatesH.up hgc t59
  replace hbv:=NumH.up hbv t59
  replace r1:=IntsC.up r1 t59
  replace r2:=NumH.up r2 t59
  replace r3:=IntsC.up r3 t59
  replace r4:=NumH.up r4 t59
  replace r5:=rdu3 r5 t59
  replace r6:=rdu3 r6 t59
  replace q1:=IntsC.up q1 t59
  replace q2:=NumH.up q2 t59
  replace q3:=IntsC.up q3 t59
  replace q4:=NumH.up q4 t59
  replace q5:=rdu3 q5 t59
  replace q6:=rdu3 q6 t59
  conv=>whnf
end Go.Proofs.YtmhnalikebkhjaaGreatDoor

namespace Go.Proofs.YtmhnalikebkhjaaGreatDoor
open Go.Proofs.YtmhnalikebkhjaaGreatDoor.X Go.Proofs.YtmhnalikebkhjaaGreatDoor.X.PH
set_option maxRecDepth 100000
theorem beq_no {a : Int}:¬ (a == a)=false:=by simp
theorem bne_no {a : Int}:¬ (a != a)=true:=by simp
theorem nv_no {x : P4 × Int}:¬ eqCells [.int .i64 x.1.a,.int .i64 x.1.b,.int .i64 x.1.c,.int .i64 x.1.d,.int .i64 x.2] [.int .i64 x.1.a,.int .i64 x.1.b,.int .i64 x.1.c,.int .i64 x.1.d,.int .i64 x.2]=false:=by rw[eqCells_nv];simp
theorem basis_short (n k : Int):(basisI n k).1.length < 9223372036854775808:=by
  unfold basisI
  split
  · simp
  · rename_i h
    unfold basisBad at h
    simp at h
    obtain⟨m,rfl⟩:=natI (a:=n) (by omega)
    have:=(pow6 (n:=m) (by omega)).1
    simp[zeros]
    omega
set_option maxHeartbeats 8000000 in
theorem d6 (v u : Vec) (n k:Int) (hv:v.length < 9223372036854775808) (hu:u.length < 9223372036854775808) (H:PH) (x y:Value) (hG:GlobH H) (hx:NumH H x v) (hy:NumH H y u):Cl Tryz.prog 6 [x,y,.int .i64 n,.int .i64 k] H emp fun r _ _=>r=.bool true:=by
  obtain⟨xb,xc,rfl,_⟩:=id hx
  obtain⟨yb,yc,rfl,_⟩:=id hy
  refine Cl_of (pol:=polL) Γok Tryz.func6 (by kernel_rfl) rfl ?_
  conv=>whnf
  refine if_intro (fun h1=>?_) (fun h1=>?_)
  · conv=>whnf
    refine (d9 _ hG).val fun H0 s0=>?_
    conv=>whnf
  conv=>whnf
  refine if_intro (fun h2=>?_) (fun h2=>?_)
  · conv=>whnf
    refine (d9 _ hG).val fun H0 s0=>?_
    conv=>whnf
  have h1:v.length≤66:=by have:=of_decide_eq_false h1;omega
  have h2:u.length≤66:=by have:=of_decide_eq_false h2;omega
  conv=>whnf
  refine (c43' v _ _ hx (by omega)).use fun r H1 s1 hr=>?_
  obtain⟨_,cx⟩:=hr
  obtain⟨cxb,cxc,rfl,_⟩:=id cx
  have t1:=s1
  replace hG:=GlobH.up hG t1
  replace hx:=NumH.up hx t1
  replace hy:=NumH.up hy t1
  conv=>whnf
  refine (c43' u _ _ hy (by omega)).use fun r H2 s2 hr=>?_
  obtain⟨_,cy⟩:=hr
  obtain⟨cyb,cyc,rfl,_⟩:=id cy
  have t2:=s2
  replace hG:=GlobH.up hG t2
  replace hx:=NumH.up hx t2
  replace hy:=NumH.up hy t2
  replace cx:=NumH.up cx t2
  conv=>whnf
  refine (d40 v (by omega) _ _ hx).val fun H3 s3=>?_
  have t3:=s3
  replace hG:=GlobH.up hG t3
  replace hx:=NumH.up hx t3
  replace hy:=NumH.up hy t3
  replace cx:=NumH.up cx t3
  replace cy:=NumH.up cy t3
  conv=>whnf
  refine (d41 n k _).use fun r H4 s4 hr=>?_
  obtain⟨_,ba,rfl,hba⟩:=hr
  obtain⟨bab,bac,rfl,_⟩:=id hba
  have t4:=s4
  replace hG:=GlobH.up hG t4
  replace hx:=NumH.up hx t4
  replace hy:=NumH.up hy t4
  replace cx:=NumH.up cx t4
  replace cy:=NumH.up cy t4
  conv=>whnf
  refine (d42 v (by omega) _ _ hx).val fun H5 s5=>?_
  have t5:=s5
  replace hG:=GlobH.up hG t5
  replace hx:=NumH.up hx t5
  replace hy:=NumH.up hy t5
  replace cx:=NumH.up cx t5
  replace cy:=NumH.up cy t5
  replace hba:=NumH.up hba t5
  conv=>whnf
  intro b6
  conv=>whnf
  refine (d43 v u (by omega) (by omega) _ _ _ hx hy).val fun H7 s7=>?_
  have t7:=s7
  replace hG:=GlobH.up hG t7
  replace hx:=NumH.up hx t7
  replace hy:=NumH.up hy t7
  replace cx:=NumH.up cx t7
  replace cy:=NumH.up cy t7
  replace hba:=NumH.up hba t7
  conv=>whnf
  refine (d44 v (by omega) _ _ cx).val fun H8 s8=>?_
  have t8:=s8
  replace hG:=GlobH.up hG t8
  replace hx:=NumH.up hx t8
  replace hy:=NumH.up hy t8
  replace cx:=NumH.up cx t8
  replace cy:=NumH.up cy t8
  replace hba:=NumH.up hba t8
  conv=>whnf
  refine (d45 n k _).use fun r H9 s9 hr=>?_
  obtain⟨_,bb,rfl,hbb⟩:=hr
  obtain⟨bbb,bbc,rfl,_⟩:=id hbb
  have t9:=s9
  replace hG:=GlobH.up hG t9
  replace hx:=NumH.up hx t9
  replace hy:=NumH.up hy t9
  replace cx:=NumH.up cx t9
  replace cy:=NumH.up cy t9
  replace hba:=NumH.up hba t9
  conv=>whnf
  refine (d46 v (by omega) _ _ cx).val fun H10 s10=>?_
  have t10:=s10
  replace hG:=GlobH.up hG t10
  replace hx:=NumH.up hx t10
  replace hy:=NumH.up hy t10
  replace cx:=NumH.up cx t10
  replace cy:=NumH.up cy t10
  replace hba:=NumH.up hba t10
  replace hbb:=NumH.up hbb t10
  conv=>whnf
  intro b11
  conv=>whnf
  refine (d47 v u (by omega) (by omega) _ _ _ cx cy).val fun H12 s12=>?_
  have t12:=s12
  replace hG:=GlobH.up hG t12
  replace hx:=NumH.up hx t12
  replace hy:=NumH.up hy t12
  replace cx:=NumH.up cx t12
  replace cy:=NumH.up cy t12
  replace hba:=NumH.up hba t12
  replace hbb:=NumH.up hbb t12
  conv=>whnf
  refine (d48 v (by omega) _ _ cx).val fun H13 s13=>?_
  have t13:=s13
  replace hG:=GlobH.up hG t13
  replace hx:=NumH.up hx t13
  replace hy:=NumH.up hy t13
  replace cx:=NumH.up cx t13
  replace cy:=NumH.up cy t13
  replace hba:=NumH.up hba t13
  replace hbb:=NumH.up hbb t13
  conv=>whnf
  refine (d49 v (by omega) _ _ hx).val fun H14 s14=>?_
  have t14:=s14
  replace hG:=GlobH.up hG t14
  replace hx:=NumH.up hx t14
  replace hy:=NumH.up hy t14
  replace cx:=NumH.up cx t14
  replace cy:=NumH.up cy t14
  replace hba:=NumH.up hba t14
  replace hbb:=NumH.up hbb t14
  conv=>whnf
  refine if_intro (fun _=>?_) (fun h15=>?_)
  rotate_left
  · exact absurd h15 (beq_no)
  conv=>whnf
  refine if_intro (fun _=>?_) (fun h16=>?_)
  rotate_left
  · exact absurd h16 (beq_no)
  conv=>whnf
  refine if_intro (fun _=>?_) (fun h17=>?_)
  rotate_left
  · exact absurd h17 (beq_no)
  conv=>whnf
  refine if_intro (fun _=>?_) (fun h18=>?_)
  rotate_left
  · exact absurd h18 (beq_no)
  conv=>whnf
  refine if_intro (fun _=>?_) (fun h19=>?_)
  rotate_left
  · exact absurd h19 (beq_no)
  conv=>whnf
  refine if_intro (fun _=>?_) (fun h20=>?_)
  rotate_left
  · exact absurd h20 (beq_no)
  conv=>whnf
  refine (c48t (basisI n k).1 (basisI n k).1 (eqL_refl _) (basis_short n k) _ _ _ hbb hba).val fun H21 s21=>?_
  have t21:=s21
  replace hG:=GlobH.up hG t21
  replace hx:=NumH.up hx t21
  replace hy:=NumH.up hy t21
  replace cx:=NumH.up cx t21
  replace cy:=NumH.up cy t21
  replace hba:=NumH.up hba t21
  replace hbb:=NumH.up hbb t21
  conv=>whnf
  refine if_intro (fun _=>?_) (fun h22=>?_)
  rotate_left
  · exact absurd h22 (nv_no)
  conv=>whnf
  refine if_intro (fun _=>?_) (fun h23=>?_)
  rotate_left
  · exact absurd h23 (beq_no)
  conv=>whnf
  refine (c48t v v (eqL_refl _) (by omega) _ _ _ cx hx).val fun H24 s24=>?_
  have t24:=s24
  replace hG:=GlobH.up hG t24
  replace hx:=NumH.up hx t24
  replace hy:=NumH.up hy t24
  replace cx:=NumH.up cx t24
  replace cy:=NumH.up cy t24
  replace hba:=NumH.up hba t24
  replace hbb:=NumH.up hbb t24
  conv=>whnf
  refine (c48t u u (eqL_refl _) (by omega) _ _ _ cy hy).val fun H25 s25=>?_
  have t25:=s25
  replace hG:=GlobH.up hG t25
  replace hx:=NumH.up hx t25
  replace hy:=NumH.up hy t25
  replace cx:=NumH.up cx t25
  replace cy:=NumH.up cy t25
  replace hba:=NumH.up hba t25
  replace hbb:=NumH.up hbb t25
  conv=>whnf
  refine (d9 _ hG).val fun H26 s26=>?_
  have t26:=s26
  replace hG:=GlobH.up hG t26
  replace hx:=NumH.up hx t26
  replace hy:=NumH.up hy t26
  replace cx:=NumH.up cx t26
  replace cy:=NumH.up cy t26
  replace hba:=NumH.up hba t26
  replace hbb:=NumH.up hbb t26
  conv=>whnf
end Go.Proofs.YtmhnalikebkhjaaGreatDoor

namespace Go.Proofs.YtmhnalikebkhjaaGreatDoor
open Go.Proofs.YtmhnalikebkhjaaGreatDoor.X Go.Proofs.YtmhnalikebkhjaaGreatDoor.X.PH
set_option maxRecDepth 100000
theorem codeK_skip {Γ : TypeId→TI} {P:Program} {r:Option Nat} {pol:Tmp→Pol} {s:S} {K:Exit→S→Prop} (h:K .normal s):codeK Γ P r pol .skip s K:=h
theorem seq_stop {Γ : TypeId→TI} {P:Program} {r:Option Nat} {pol:Tmp→Pol} {a b:Code} {s:S} {K:Exit→S→Prop}
    (h:∀ K1:S→Prop,(∀ s',codeK Γ P r pol b s' K=K1 s')→codeK Γ P r pol a s fun e s'=>match e with
      | .normal=>K1 s'
      | e=>K e s'):codeK Γ P r pol (.seq a b) s K:=h _ fun _=>rfl
theorem OwnS.clear {O : PH} {sz:Nat} {t:TypeId} {v:Value} {xs:List (List Value)} {z:List Value} {K:PH→Prop} (h:OwnS O sz t v xs) (hz:z.length=sz) (hone:∀ x∈z,x.oneCell'=true)
    (k:∀ O',(∀ n o,O n=some o→(∀ cap,v ≠ .slice (some ⟨n,0,none⟩) xs.length cap)→O' n=some o)→K O'):Go.Proofs.YtmhnalikebkhjaaGreatDoor.X.clearK O sz z v K:=by
  obtain⟨h1,h⟩:=h
  unfold Go.Proofs.YtmhnalikebkhjaaGreatDoor.X.clearK
  rcases h with⟨rfl,h⟩ | ⟨b,cap,spare,rfl,hO,hcap,hsp⟩
  · refine⟨none,0,0,rfl,hz,hone,fun _=>k _ fun n o hn _=>hn,fun a h=>by cases h⟩
  · refine⟨some ⟨b,0,none⟩,_,cap,rfl,hz,hone,fun _=>k _ fun n o hn _=>hn,fun a h _=>?_⟩
    cases h
    refine⟨b,0,_,_,rfl,hO,?_,k _ fun n o hn hne=>(ins_ne _ _ fun e=>hne cap (by rw[e])).trans hn⟩
    rw[List.length_append,flat_length h1]
    omega
theorem un_left (H O : PH):Sub H (un H O):=fun n o h=>by simp[un,h]
theorem c48o {l : Vec} {H O:PH} {u v:Value} (hlen:l.length < 9223372036854775808) (hu:NumO O u l) (hv:NumH H v l):Cl Tryz.prog 21 [u,v] H O fun r _ O'=>r=.bool true∧Sub O O':=
  (Cl.share' (c48t [] [] rfl (by decide) emp _ _ (nilV emp) (nilV emp)).ent fun hd=>c48t l l (eqL_refl l) hlen _ _ _ (NumO.share hu hd) (NumH.up hv (un_left H O))).mono fun _ _ _ _ h=>⟨h.2,h.1⟩
def ApS (a : Value) (la:Nat) (b:Value):Prop:=∀ n cap,a=.slice (some ⟨n,0,none⟩) la cap→∀ lb cap',b ≠ .slice (some ⟨n,0,none⟩) lb cap'
theorem ap_parts {O M R : PH} {t t':TypeId} {sz sz':Nat} {a b:Value} {xs ys:List (List Value)} (hp:Parts O M R) (ha:OwnS R sz t a xs) (hb:OwnS M sz' t' b ys):ApS a xs.length b:=by
  intro n cap ea lb cap' eb
  rcases ha.2 with⟨e,_⟩ | ⟨n1,c1,s1,e,h1,_⟩
  · rw[ea] at e;cases e
  rcases hb.2 with⟨e',_⟩ | ⟨n2,c2,s2,e',h2,_⟩
  · rw[eb] at e';cases e'
  rw[ea] at e;cases e
  rw[eb] at e';cases e'
  rcases hp.dis n with h | h
  · rw[h2] at h;cases h
  · rw[h1] at h;cases h
theorem OwnS.kept {O O' : PH} {t:TypeId} {sz:Nat} {a b:Value} {la:Nat} {ys:List (List Value)} (hb:OwnS O sz t b ys) (hap:ApS a la b) (hk:∀ n o,O n=some o→(∀ cap,a ≠ .slice (some ⟨n,0,none⟩) la cap)→O' n=some o):OwnS O' sz t b ys:=by
  refine⟨hb.1,?_⟩
  rcases hb.2 with h | ⟨n2,c2,s2,e',h2,q⟩
  · exact .inl h
  · exact .inr ⟨n2,c2,s2,e',hk _ _ h2 fun cap ea=>hap n2 cap ea _ _ e',q⟩
theorem d30t (g : Gt) (hl:g.ws.length < 9223372036854775808) (H:PH) (u w:Value) (hu:IntsC H u g.ws) (hw:IntsC H w g.ws):Cl Tryz.prog 30 [gv g u,gv g w] H emp fun r _ _=>r=.bool true:=by
  have:=d30 g g hl H u w hu hw
  rwa [decide_eq_true rfl] at this
theorem nnv_no {x : P4 × Int}:¬ (!eqCells [.int .i64 x.1.a,.int .i64 x.1.b,.int .i64 x.1.c,.int .i64 x.1.d,.int .i64 x.2] [.int .i64 x.1.a,.int .i64 x.1.b,.int .i64 x.1.c,.int .i64 x.1.d,.int .i64 x.2])=true:=by rw[eqCells_nv];simp
theorem apply_len (v : Vec) (g:Gt):(applyV v g).1.length≤v.length:=by
  unfold applyV
  split
  · simp
  split
  · simp
  · unfold doneG rowsE
    split
    · simp
    · simp
theorem findV_len (v : Vec) (w x:Int):(findV v w x).1.length≤v.length:=by
  unfold findV
  split
  · simp
  split
  · simp
  split
  · simp
  · rw[kept_len];exact Nat.le_refl _
set_option maxHeartbeats 8000000 in
theorem d4 (v : Vec) (g:Gt) (n k:Int) (hv:v.length < 9223372036854775808) (hw0:g.ws.length < 9223372036854775808) (H:PH) (x w:Value) (hG:GlobH H) (hx:NumH H x v) (hw:IntsC H w g.ws):Cl Tryz.prog 4 [x,gv g w,.int .i64 n,.int .i64 k] H emp fun r _ _=>r=.bool true:=by
  obtain⟨xb,xc,rfl,_⟩:=id hx
  obtain⟨wb,wc,rfl,_⟩:=id hw
  refine Cl_of (pol:=polL) Γok Tryz.func4 (by kernel_rfl) rfl ?_
  conv=>whnf
  intro b1
  conv=>whnf
  refine if_intro (fun h1=>?_) (fun h1=>?_)
  · conv=>whnf
    refine (d9 _ hG).val fun H0 s0=>?_
    conv=>whnf
  conv=>whnf
  refine if_intro (fun h2=>?_) (fun h2=>?_)
  · conv=>whnf
    refine if_intro (fun h3=>?_) (fun h3=>?_)
    · conv=>whnf
      refine (d9 _ hG).val fun H0 s0=>?_
      conv=>whnf
    have hv100:v.length≤100000:=by have:=eq_of_neq h3;omega
    conv=>whnf
    refine if_intro (fun h6=>?_) (fun h6=>?_)
    · conv=>whnf
      refine (d9 _ hG).val fun H0 s0=>?_
      conv=>whnf
    have h6:g.ws.length≤6:=by have:=of_decide_eq_false h6;omega
    conv=>whnf
    refine W_draw (pol:=polL) Γok mixes [(0,.pendO),(2,.pend),(3,.pend),(4,.pend),(5,.pend),(7,.pend),(8,.pend),(9,.pend),(10,.pend),(1,.lock),(6,.lock),(11,.pendO),(12,.late),(13,.pendO),(14,.lock)] 136 (by kernel_rfl) rfl ?_
    conv=>whnf
    refine (c43' v _ _ hx (by omega)).use fun r H1 s1 hr=>?_
    obtain⟨_,cx⟩:=hr
    obtain⟨cxb,cxc,rfl,_⟩:=id cx
    have t1:=s1
    replace hG:=GlobH.up hG t1
    replace hx:=NumH.up hx t1
    replace hw:=IntsC.up hw t1
    conv=>whnf
    refine (c16C g.ws (by omega) _ _ hw.h).use fun r H2 s2 hr=>?_
    obtain⟨_,cw⟩:=hr
    obtain⟨cwb,cwc,rfl,_⟩:=id cw
    have t2:=s2
    replace hG:=GlobH.up hG t2
    replace hx:=NumH.up hx t2
    replace hw:=IntsC.up hw t2
    replace cx:=NumH.up cx t2
    conv=>whnf
    intro b3
    conv=>whnf
    refine (Cl.outV (d24o v g hv (by omega) _ _ _ hx hw)).use fun r H4 s4 hr=>?_
    obtain⟨_,wa,rfl,hwa⟩:=hr
    obtain⟨wab,wac,rfl,_⟩:=id hwa
    have t4:=s4
    replace hG:=GlobH.up hG t4
    replace hx:=NumH.up hx t4
    replace hw:=IntsC.up hw t4
    replace cx:=NumH.up cx t4
    replace cw:=IntsC.up cw t4
    conv=>whnf
    refine (Cl.outV (d25o v n k hv _ _ hx)).use fun r H5 s5 hr=>?_
    obtain⟨_,fa,rfl,hfa⟩:=hr
    obtain⟨fab,fac,rfl,_⟩:=id hfa
    have t5:=s5
    replace hG:=GlobH.up hG t5
    replace hx:=NumH.up hx t5
    replace hw:=IntsC.up hw t5
    replace cx:=NumH.up cx t5
    replace cw:=IntsC.up cw t5
    replace hwa:=NumH.up hwa t5
    conv=>whnf
    refine (d26 v n hv _ _ hx).val fun H6 s6=>?_
    have t6:=s6
    replace hG:=GlobH.up hG t6
    replace hx:=NumH.up hx t6
    replace hw:=IntsC.up hw t6
    replace cx:=NumH.up cx t6
    replace cw:=IntsC.up cw t6
    replace hwa:=NumH.up hwa t6
    replace hfa:=NumH.up hfa t6
    conv=>whnf
    intro b7
    conv=>whnf
    refine (d27o v g hv (by omega) _ _ _ cx cw).mono fun r H8 M8 s8 hr=>?_
    obtain⟨a,rfl,ha⟩:=hr
    obtain⟨ab,an,ac,rfl⟩:=OwnS.sl ha
    have t8:=s8
    replace hG:=GlobH.up hG t8
    replace hx:=NumH.up hx t8
    replace hw:=IntsC.up hw t8
    replace cx:=NumH.up cx t8
    replace cw:=IntsC.up cw t8
    replace hwa:=NumH.up hwa t8
    replace hfa:=NumH.up hfa t8
    conv=>whnf
    refine ((d28o v n k hv _ _ cx).pure).mono fun r H9 M9 s9 hr=>?_
    obtain⟨Mb,hp,b,rfl,hb⟩:=hr
    have hap:=ap_parts hp ha hb
    obtain⟨bb,bn,bc,rfl⟩:=OwnS.sl hb
    have ha2:=OwnS.upS ha hp.right
    have hb2:=OwnS.upS hb hp.left
    have t9:=s9
    replace hG:=GlobH.up hG t9
    replace hx:=NumH.up hx t9
    replace hw:=IntsC.up hw t9
    replace cx:=NumH.up cx t9
    replace cw:=IntsC.up cw t9
    replace hwa:=NumH.up hwa t9
    replace hfa:=NumH.up hfa t9
    conv=>whnf
    refine (d29 v n hv _ _ cx).val fun H10 s10=>?_
    have t10:=s10
    replace hG:=GlobH.up hG t10
    replace hx:=NumH.up hx t10
    replace hw:=IntsC.up hw t10
    replace cx:=NumH.up cx t10
    replace cw:=IntsC.up cw t10
    replace hwa:=NumH.up hwa t10
    replace hfa:=NumH.up hfa t10
    conv=>whnf
    intro b11
    conv=>whnf
    refine if_intro (fun h12=>?_) (fun _=>?_)
    · exact absurd h12 (bne_no)
    conv=>whnf
    refine if_intro (fun h13=>?_) (fun _=>?_)
    · exact absurd h13 (bne_no)
    conv=>whnf
    refine if_intro (fun h14=>?_) (fun _=>?_)
    · exact absurd h14 (bne_no)
    conv=>whnf
    refine (c48o (Nat.lt_of_le_of_lt (apply_len v g) hv) ha2 hwa).mono fun r H15 M15 s15 hr=>?_
    obtain⟨rfl,hO⟩:=hr
    replace ha2:=OwnS.upS ha2 hO
    replace hb2:=OwnS.upS hb2 hO
    have t15:=s15
    replace hG:=GlobH.up hG t15
    replace hx:=NumH.up hx t15
    replace hw:=IntsC.up hw t15
    replace cx:=NumH.up cx t15
    replace cw:=IntsC.up cw t15
    replace hwa:=NumH.up hwa t15
    replace hfa:=NumH.up hfa t15
    conv=>whnf
    refine (c48o (Nat.lt_of_le_of_lt (findV_len v n k) hv) hb2 hfa).mono fun r H16 M16 s16 hr=>?_
    obtain⟨rfl,hO2⟩:=hr
    replace ha2:=OwnS.upS ha2 hO2
    replace hb2:=OwnS.upS hb2 hO2
    have t16:=s16
    replace hG:=GlobH.up hG t16
    replace hx:=NumH.up hx t16
    replace hw:=IntsC.up hw t16
    replace cx:=NumH.up cx t16
    replace cw:=IntsC.up cw t16
    replace hwa:=NumH.up hwa t16
    replace hfa:=NumH.up hfa t16
    conv=>whnf
    refine if_intro (fun h=>?_) (fun _=>?_)
    · exact absurd h nnv_no
    dsimp only[litK,setK]
    refine codeK_skip ?_
    dsimp only[]
    refine seq_stop fun K1 hK1=>?_
    conv=>whnf
    refine OwnS.clear ha2 rfl (by simp[Value.oneCell']) fun O1 hk1=>?_
    replace hb2:=OwnS.kept hb2 hap hk1
    conv=>whnf
    rw[← hK1]
    clear hK1 K1
    refine seq_stop fun K1 hK1=>?_
    conv=>whnf
    refine OwnS.clear hb2 rfl (by simp[Value.oneCell']) fun O2 hk2=>?_
    conv=>whnf
    rw[← hK1]
    clear hK1 K1
    conv=>whnf
    refine (c48t v v (eqL_refl _) hv _ _ _ cx hx).val fun H17 s17=>?_
    have t17:=s17
    replace hG:=GlobH.up hG t17
    replace hx:=NumH.up hx t17
    replace hw:=IntsC.up hw t17
    replace cx:=NumH.up cx t17
    replace cw:=IntsC.up cw t17
    replace hwa:=NumH.up hwa t17
    replace hfa:=NumH.up hfa t17
    conv=>whnf
    refine (d30t g hw0 _ _ _ cw hw).val fun H18 s18=>?_
    have t18:=s18
    replace hG:=GlobH.up hG t18
    replace hx:=NumH.up hx t18
    replace hw:=IntsC.up hw t18
    replace cx:=NumH.up cx t18
    replace cw:=IntsC.up cw t18
    replace hwa:=NumH.up hwa t18
    replace hfa:=NumH.up hfa t18
    conv=>whnf
    refine (d9 _ hG).val fun H19 s19=>?_
    have t19:=s19
    replace hG:=GlobH.up hG t19
    replace hx:=NumH.up hx t19
    replace hw:=IntsC.up hw t19
    replace cx:=NumH.up cx t19
    replace cw:=IntsC.up cw t19
    replace hwa:=NumH.up hwa t19
    replace hfa:=NumH.up hfa t19
    conv=>whnf
  have hv100:v.length≤100000:=by have:=of_decide_eq_false h2;omega
  conv=>whnf
  refine if_intro (fun h6=>?_) (fun h6=>?_)
  · conv=>whnf
    refine (d9 _ hG).val fun H0 s0=>?_
    conv=>whnf
  have h6:g.ws.length≤6:=by have:=of_decide_eq_false h6;omega
  conv=>whnf
  refine W_draw (pol:=polL) Γok mixes [(0,.pendO),(2,.pend),(3,.pend),(4,.pend),(5,.pend),(7,.pend),(8,.pend),(9,.pend),(10,.pend),(1,.lock),(6,.lock),(11,.pendO),(12,.late),(13,.pendO),(14,.lock)] 136 (by kernel_rfl) rfl ?_
  conv=>whnf
  refine (c43' v _ _ hx (by omega)).use fun r H1 s1 hr=>?_
  obtain⟨_,cx⟩:=hr
  obtain⟨cxb,cxc,rfl,_⟩:=id cx
  have t1:=s1
  replace hG:=GlobH.up hG t1
  replace hx:=NumH.up hx t1
  replace hw:=IntsC.up hw t1
  conv=>whnf
  refine (c16C g.ws (by omega) _ _ hw.h).use fun r H2 s2 hr=>?_
  obtain⟨_,cw⟩:=hr
  obtain⟨cwb,cwc,rfl,_⟩:=id cw
  have t2:=s2
  replace hG:=GlobH.up hG t2
  replace hx:=NumH.up hx t2
  replace hw:=IntsC.up hw t2
  replace cx:=NumH.up cx t2
  conv=>whnf
  intro b3
  conv=>whnf
  refine (Cl.outV (d24o v g hv (by omega) _ _ _ hx hw)).use fun r H4 s4 hr=>?_
  obtain⟨_,wa,rfl,hwa⟩:=hr
  obtain⟨wab,wac,rfl,_⟩:=id hwa
  have t4:=s4
  replace hG:=GlobH.up hG t4
  replace hx:=NumH.up hx t4
  replace hw:=IntsC.up hw t4
  replace cx:=NumH.up cx t4
  replace cw:=IntsC.up cw t4
  conv=>whnf
  refine (Cl.outV (d25o v n k hv _ _ hx)).use fun r H5 s5 hr=>?_
  obtain⟨_,fa,rfl,hfa⟩:=hr
  obtain⟨fab,fac,rfl,_⟩:=id hfa
  have t5:=s5
  replace hG:=GlobH.up hG t5
  replace hx:=NumH.up hx t5
  replace hw:=IntsC.up hw t5
  replace cx:=NumH.up cx t5
  replace cw:=IntsC.up cw t5
  replace hwa:=NumH.up hwa t5
  conv=>whnf
  refine (d26 v n hv _ _ hx).val fun H6 s6=>?_
  have t6:=s6
  replace hG:=GlobH.up hG t6
  replace hx:=NumH.up hx t6
  replace hw:=IntsC.up hw t6
  replace cx:=NumH.up cx t6
  replace cw:=IntsC.up cw t6
  replace hwa:=NumH.up hwa t6
  replace hfa:=NumH.up hfa t6
  conv=>whnf
  intro b7
  conv=>whnf
  refine (d27o v g hv (by omega) _ _ _ cx cw).mono fun r H8 M8 s8 hr=>?_
  obtain⟨a,rfl,ha⟩:=hr
  obtain⟨ab,an,ac,rfl⟩:=OwnS.sl ha
  have t8:=s8
  replace hG:=GlobH.up hG t8
  replace hx:=NumH.up hx t8
  replace hw:=IntsC.up hw t8
  replace cx:=NumH.up cx t8
  replace cw:=IntsC.up cw t8
  replace hwa:=NumH.up hwa t8
  replace hfa:=NumH.up hfa t8
  conv=>whnf
  refine ((d28o v n k hv _ _ cx).pure).mono fun r H9 M9 s9 hr=>?_
  obtain⟨Mb,hp,b,rfl,hb⟩:=hr
  have hap:=ap_parts hp ha hb
  obtain⟨bb,bn,bc,rfl⟩:=OwnS.sl hb
  have ha2:=OwnS.upS ha hp.right
  have hb2:=OwnS.upS hb hp.left
  have t9:=s9
  replace hG:=GlobH.up hG t9
  replace hx:=NumH.up hx t9
  replace hw:=IntsC.up hw t9
  replace cx:=NumH.up cx t9
  replace cw:=IntsC.up cw t9
  replace hwa:=NumH.up hwa t9
  replace hfa:=NumH.up hfa t9
  conv=>whnf
  refine (d29 v n hv _ _ cx).val fun H10 s10=>?_
  have t10:=s10
  replace hG:=GlobH.up hG t10
  replace hx:=NumH.up hx t10
  replace hw:=IntsC.up hw t10
  replace cx:=NumH.up cx t10
  replace cw:=IntsC.up cw t10
  replace hwa:=NumH.up hwa t10
  replace hfa:=NumH.up hfa t10
  conv=>whnf
  intro b11
  conv=>whnf
  refine if_intro (fun h12=>?_) (fun _=>?_)
  · exact absurd h12 (bne_no)
  conv=>whnf
  refine if_intro (fun h13=>?_) (fun _=>?_)
  · exact absurd h13 (bne_no)
  conv=>whnf
  refine if_intro (fun h14=>?_) (fun _=>?_)
  · exact absurd h14 (bne_no)
  conv=>whnf
  refine (c48o (Nat.lt_of_le_of_lt (apply_len v g) hv) ha2 hwa).mono fun r H15 M15 s15 hr=>?_
  obtain⟨rfl,hO⟩:=hr
  replace ha2:=OwnS.upS ha2 hO
  replace hb2:=OwnS.upS hb2 hO
  have t15:=s15
  replace hG:=GlobH.up hG t15
  replace hx:=NumH.up hx t15
  replace hw:=IntsC.up hw t15
  replace cx:=NumH.up cx t15
  replace cw:=IntsC.up cw t15
  replace hwa:=NumH.up hwa t15
  replace hfa:=NumH.up hfa t15
  conv=>whnf
  refine (c48o (Nat.lt_of_le_of_lt (findV_len v n k) hv) hb2 hfa).mono fun r H16 M16 s16 hr=>?_
  obtain⟨rfl,hO2⟩:=hr
  replace ha2:=OwnS.upS ha2 hO2
  replace hb2:=OwnS.upS hb2 hO2
  have t16:=s16
  replace hG:=GlobH.up hG t16
  replace hx:=NumH.up hx t16
  replace hw:=IntsC.up hw t16
  replace cx:=NumH.up cx t16
  replace cw:=IntsC.up cw t16
  replace hwa:=NumH.up hwa t16
  replace hfa:=NumH.up hfa t16
  conv=>whnf
  refine if_intro (fun h=>?_) (fun _=>?_)
  · exact absurd h nnv_no
  dsimp only[litK,setK]
  refine codeK_skip ?_
  dsimp only[]
  refine seq_stop fun K1 hK1=>?_
  conv=>whnf
  refine OwnS.clear ha2 rfl (by simp[Value.oneCell']) fun O1 hk1=>?_
  replace hb2:=OwnS.kept hb2 hap hk1
  conv=>whnf
  rw[← hK1]
  clear hK1 K1
  refine seq_stop fun K1 hK1=>?_
  conv=>whnf
  refine OwnS.clear hb2 rfl (by simp[Value.oneCell']) fun O2 hk2=>?_
  conv=>whnf
  rw[← hK1]
  clear hK1 K1
  conv=>whnf
  refine (c48t v v (eqL_refl _) hv _ _ _ cx hx).val fun H17 s17=>?_
  have t17:=s17
  replace hG:=GlobH.up hG t17
  replace hx:=NumH.up hx t17
  replace hw:=IntsC.up hw t17
  replace cx:=NumH.up cx t17
  replace cw:=IntsC.up cw t17
  replace hwa:=NumH.up hwa t17
  replace hfa:=NumH.up hfa t17
  conv=>whnf
  refine (d30t g hw0 _ _ _ cw hw).val fun H18 s18=>?_
  have t18:=s18
  replace hG:=GlobH.up hG t18
  replace hx:=NumH.up hx t18
  replace hw:=IntsC.up hw t18
  replace cx:=NumH.up cx t18
  replace cw:=IntsC.up cw t18
  replace hwa:=NumH.up hwa t18
  replace hfa:=NumH.up hfa t18
  conv=>whnf
  refine (d9 _ hG).val fun H19 s19=>?_
  have t19:=s19
  replace hG:=GlobH.up hG t19
  replace hx:=NumH.up hx t19
  replace hw:=IntsC.up hw t19
  replace cx:=NumH.up cx t19
  replace cw:=IntsC.up cw t19
  replace hwa:=NumH.up hwa t19
  replace hfa:=NumH.up hfa t19
  conv=>whnf
end Go.Proofs.YtmhnalikebkhjaaGreatDoor
