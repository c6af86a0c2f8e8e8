/- A part of the proof. Conditions: none. -/
import Derived.Test.YtpleoapljeffiaaGreatDoorKP19
import Derived.Test.YtpleoapljeffiaaGreatDoorJfPlay
import Derived.Test.YtpleoapljeffiaaGreatDoorCards
import Derived.Test.YtpleoapljeffiaaGreatDoorTie
set_option linter.unusedVariables false
set_option linter.unusedSimpArgs false
set_option maxHeartbeats 8000000
set_option maxRecDepth 100000
namespace Go.Proofs.YtpleoapljeffiaaGreatDoor.E
open Go
open Classical
section
variable {a:Nat} {x:HX} {n:Int} {ka kb kc:Nat}
theorem smp_18(h:Sound x.H)(hP:ActP ⟨18,ka,kb,kc,n⟩):FnA Tryz.prog 125 [eV a,.agg #[.int .i64 18,.int .i64 ka,.int .i64 kb,.int .i64 kc,.int .i64 n]] (hp a x) (fun v As=>∃z:HX,v=an 0 (d2 x.H x.H.cells.length:Nat)∧As=hp a z∧z.H=x.H.settleH):=by
 refine fnA_of (fun h=>fn125 (by simp) h) ?_
 repeat' (first
  |(refine k_L ?_;first|refine a_p rfl ?_|(refine k_st ?_;refine g_sw rfl rfl rfl rfl (Nat.le_of_ble_eq_true rfl) ?_)|(refine k_al ?_;refine a_al ?_)|(refine k_bx ?_;refine a_bx rfl rfl ?_)|(refine k_c ?_;refine a_cq rfl (fun m hm=>numE_q) ?_)|(refine g_c rfl (settle_a (x:=x) h) (fun v As' hq=>?_);obtain⟨z,rfl,rfl,hz⟩:=hq))
  |refine a_n ?_
  |(refine k_V ?_;first|refine v_seq ?_|refine v_reg ?_|refine v_bs ?_|refine v_ret ?_|refine v_ct rfl ?_|refine v_cf rfl ?_)
  |refine s_r ?_
  |refine b_r ?_
  |refine sk_zero ?_
  |refine sk_succ ?_
  |refine wk_nil ?_
  |refine wk_cons ?_)
 all_goals exact fa_r (fun _ _=>rfl) (Pm.ent pmt) ⟨z,rfl,rfl,hz⟩
theorem smp_19(h:Sound x.H)(hP:ActP ⟨19,ka,kb,kc,n⟩):FnA Tryz.prog 125 [eV a,.agg #[.int .i64 19,.int .i64 ka,.int .i64 kb,.int .i64 kc,.int .i64 n]] (hp a x) (fun v As=>∃z:HX,v=an (doDue x.H ⟨19,ka,kb,kc,n⟩).code (doDue x.H ⟨19,ka,kb,kc,n⟩).num∧As=hp a z∧z.H=(doDue x.H ⟨19,ka,kb,kc,n⟩).heap):=by
 have hQ:=hP
 simp[ActP,aMost,bMost,cMost]at hQ
 have hnr:x.hdr.nr=x.regs.length:=rfl
 have h16:x.regs.length=16:=h.r1.regs
 obtain⟨w,gw⟩:∃w,x.regs[ka]?=some w:=⟨_,List.getElem?_eq_getElem (by omega)⟩
 have hl:=x.len
 have hnc:x.hdr.nc=x.xs.length:=rfl
 unfold doDue
 dsimp only
 refine fnA_of (fun h=>fn125 (by simp) h) ?_
 by_cases c:ndG x.H x.H.cells.length<0
 ·rw[if_pos c]
  repeat' (first
   |(refine k_L ?_;first|(refine k_l ?_;refine g_l rfl ?_)|(refine k_i ?_;refine g_i rfl rfl ?_)|(refine k_st ?_;first|refine g_st rfl rfl rfl rfl ?_|refine g_sw rfl rfl rfl rfl (Nat.le_of_ble_eq_true rfl) ?_)|(refine k_al ?_;refine a_al ?_)|(refine k_bx ?_;refine a_bx rfl rfl ?_)|(refine k_c ?_;first|refine a_cq rfl (fun m hm=>numE_q) ?_|refine a_cq rfl (fun m hm=>nextDueLoop_q (x:=x) (sep_has hm pmt) h.r2) ?_)|(refine b_w ⟨0,0,0⟩ rfl ?_)|(refine b_p rfl ?_))
   |refine a_n ?_
   |(refine k_V ?_;first|refine v_seq ?_|refine v_reg ?_|refine v_dreg ?_|refine v_bs ?_|refine v_ret ?_|refine v_ct rfl ?_|refine v_cf rfl ?_|(refine v_cd rfl (fun hb=>?_) (fun hb=>?_)<;>try(exfalso;omega)))
   |refine s_r ?_
   |refine b_r ?_
   |refine sk_zero ?_
   |refine sk_succ ?_
   |refine wk_nil ?_
   |refine wk_cons ?_)
  all_goals exact fa_r (fun _ _=>rfl) (Pm.ent (fin ({x with regs:=x.regs.set ka ⟨0,0,0⟩}:HX) (h1:=by simp[HX.hdr]))) ⟨_,rfl,rfl,rfl⟩
 ·rw[if_neg c]
  obtain⟨j,hj⟩:=Int.eq_ofNat_of_zero_le (show 0≤ndG x.H x.H.cells.length by omega)
  have hjl:=(ndG_lt x.H x.H.cells.length).2
  rw[hj]at hjl⊢
  obtain⟨y,gy,gc⟩:=HX.at (x:=x) (i:=j) (by omega)
  have gk:=HX.gc gy
  repeat' (first
   |(refine k_L ?_;first|(refine k_l ?_;refine g_l rfl ?_)|(refine k_i ?_;refine g_i rfl rfl ?_)|(refine k_st ?_;first|refine g_st rfl rfl rfl rfl ?_|refine g_sw rfl rfl rfl rfl (Nat.le_of_ble_eq_true rfl) ?_)|(refine k_al ?_;refine a_al ?_)|(refine k_bx ?_;refine a_bx rfl rfl ?_)|(refine k_c ?_;first|refine a_cq rfl (fun m hm=>numE_q) ?_|refine a_cq rfl (fun m hm=>qt_e (nextDueLoop_q (x:=x) (sep_has hm pmt) h.r2) (by rw[hj])) ?_)|(refine b_w ⟨2,0,j⟩ rfl ?_)|(refine b_p rfl ?_))
   |refine a_n ?_
   |(refine k_V ?_;first|refine v_seq ?_|refine v_reg ?_|refine v_dreg ?_|refine v_bs ?_|refine v_ret ?_|refine v_skip ?_|refine v_ct rfl ?_|refine v_cf rfl ?_)
   |refine s_r ?_
   |refine b_r ?_
   |refine sk_zero ?_
   |refine sk_succ ?_
   |refine wk_nil ?_
   |refine wk_cons ?_)
  refine fa_r (fun _ _=>rfl) (Pm.ent (fin ({x with xs:=x.xs.set j (y.s_last 3),regs:=x.regs.set ka ⟨2,0,j⟩}:HX) (h1:=by simp[HX.hdr]) (h2:=by simp[HX.hdr]) (e1:=by simp[HX.hdr]))) ⟨_,rfl,rfl,?_⟩
  unfold Heap.putL Heap.setR
  rw[Int.toNat_natCast,gk]
  unfold HX.H
  simp only[List.map_set];rfl
theorem smp_20(h:Sound x.H)(hP:ActP ⟨20,ka,kb,kc,n⟩):FnA Tryz.prog 125 [eV a,.agg #[.int .i64 20,.int .i64 ka,.int .i64 kb,.int .i64 kc,.int .i64 n]] (hp a x) (fun v As=>v=an 0 (sumT x.H (heldL x.H) x.H.cells.length)∧As=hp a x):=by
 refine fna_rd fun m hm=>?_
 have hh:Has m (hp a x):=⟨m,Mem.le_refl _,hm⟩
 refine fnA_of (fun h=>fn125 (by simp) h) ?_
 repeat' (first
  |(refine k_L ?_;first|refine a_p rfl ?_|(refine k_al ?_;refine a_al ?_)|(refine k_bx ?_;refine a_bx rfl rfl ?_))
  |refine a_n ?_
  |(refine k_V ?_;first|refine v_seq ?_|refine v_reg ?_|refine v_bs ?_|refine v_ct rfl ?_|refine v_cf rfl ?_))
 refine v_hreg (Gs:=[ro m]) [] pmt ?_
 repeat' (first
  |(refine k_L ?_;first|refine a_p rfl ?_|(refine k_st ?_;refine g_sw rfl rfl rfl rfl (Nat.le_of_ble_eq_true rfl) ?_)|(refine k_c ?_;refine a_cq rfl (fun m hm=>numE_q) ?_)|(refine g_c rfl (holds_a (x:=x) hh h.r1 h.r2 h.r4) (fun v As' hq=>?_);obtain⟨sd,rfl,rfl⟩:=hq)|(refine g_c rfl (sum_a (x:=x) (L:=heldL x.H) (sd:=sd) hh h.r1 h.r2 (by rw[heldL_len,x.len])) (fun v As' hq=>?_);obtain⟨rfl,rfl⟩:=hq))
  |refine a_n ?_
  |(refine k_V ?_;refine v_ret ?_)
  |refine s_r ?_
  |refine b_r ?_
  |refine sk_zero ?_
  |refine sk_succ ?_
  |refine wk_nil ?_
  |refine wk_cons ?_
  |refine t_a ?_ t_n
  |refine t_f ?_ t_n
  |refine t_d ?_
  |refine kl_1 rfl ?_
  |refine kl_0 ?_)
 all_goals exact fa_r (As':=[ro m]) (fun _ _=>rfl) (Pm.ent pmt) ⟨by rw[x.len];rfl,rfl⟩
theorem smp_21(h:Sound x.H)(hP:ActP ⟨21,ka,kb,kc,n⟩):FnA Tryz.prog 125 [eV a,.agg #[.int .i64 21,.int .i64 ka,.int .i64 kb,.int .i64 kc,.int .i64 n]] (hp a x) (fun v As=>v=an 0 (sumT x.H (reachL x.H) x.H.cells.length)∧As=hp a x):=by
 refine fna_rd fun m hm=>?_
 have hh:Has m (hp a x):=⟨m,Mem.le_refl _,hm⟩
 refine fnA_of (fun h=>fn125 (by simp) h) ?_
 repeat' (first
  |(refine k_L ?_;first|refine a_p rfl ?_|(refine k_al ?_;refine a_al ?_)|(refine k_bx ?_;refine a_bx rfl rfl ?_))
  |refine a_n ?_
  |(refine k_V ?_;first|refine v_seq ?_|refine v_reg ?_|refine v_bs ?_|refine v_ct rfl ?_|refine v_cf rfl ?_))
 refine v_hreg (Gs:=[ro m]) [] pmt ?_
 repeat' (first
  |(refine k_L ?_;first|refine a_p rfl ?_|(refine k_st ?_;refine g_sw rfl rfl rfl rfl (Nat.le_of_ble_eq_true rfl) ?_)|(refine k_c ?_;refine a_cq rfl (fun m hm=>numE_q) ?_)|(refine g_c rfl (reach_a (x:=x) hh h.r1 h.r2 h.r4) (fun v As' hq=>?_);obtain⟨sd,rfl,rfl⟩:=hq)|(refine g_c rfl (sum_a (x:=x) (L:=reachL x.H) (sd:=sd) hh h.r1 h.r2 (by rw[reachL_len,x.len])) (fun v As' hq=>?_);obtain⟨rfl,rfl⟩:=hq))
  |refine a_n ?_
  |(refine k_V ?_;refine v_ret ?_)
  |refine s_r ?_
  |refine b_r ?_
  |refine sk_zero ?_
  |refine sk_succ ?_
  |refine wk_nil ?_
  |refine wk_cons ?_
  |refine t_a ?_ t_n
  |refine t_f ?_ t_n
  |refine t_d ?_
  |refine kl_1 rfl ?_
  |refine kl_0 ?_)
 all_goals exact fa_r (As':=[ro m]) (fun _ _=>rfl) (Pm.ent pmt) ⟨by rw[x.len];rfl,rfl⟩
theorem smp_22(h:Sound x.H)(hP:ActP ⟨22,ka,kb,kc,n⟩):FnA Tryz.prog 125 [eV a,.agg #[.int .i64 22,.int .i64 ka,.int .i64 kb,.int .i64 kc,.int .i64 n]] (hp a x) (fun v As=>∃z:HX,v=an 0 0∧As=hp a z∧z.H=x.H.stepH kc):=by
 have hQ:=hP
 simp[ActP,aMost,bMost,cMost]at hQ
 refine fnA_of (fun h=>fn125 (by simp) h) ?_
 by_cases c:kc=0
 ·subst c
  have e:x.H.stepH (0:Nat)=x.H:=by unfold Heap.stepH;rfl
  rw[e]
  repeat' (first
   |(refine k_L ?_;first|refine a_p rfl ?_|(refine k_g ?_;refine a_gy rfl rfl ?_)|(refine k_st ?_;refine g_sw rfl rfl rfl rfl (Nat.le_of_ble_eq_true rfl) ?_)|(refine k_al ?_;refine a_al ?_)|(refine k_bx ?_;refine a_bx rfl rfl ?_)|(refine k_c ?_;refine a_cq rfl (fun m hm=>numE_q) ?_))
   |refine a_n ?_
   |(refine k_V ?_;first|refine v_seq ?_|refine v_reg ?_|refine v_bs ?_|refine v_ret ?_|refine v_skip ?_|refine v_ct rfl ?_|refine v_cf rfl ?_)
   |refine sk_zero ?_
   |refine sk_succ ?_
   |refine wk_nil ?_
   |refine wk_cons ?_)
  all_goals exact fa_r (fun _ _=>rfl) (Pm.ent pmt) ⟨x,rfl,rfl,rfl⟩
 ·have hn:(kc:Int)≠0:=by omega
  have pb:x.begin.H=x.H.beginH:=begin_H
  have hsb:Sound x.begin.H:=by
   rw[pb];unfold Heap.beginH
   split
   ·exact begin_sound h ‹_›
   ·exact h
  repeat' (first
   |(refine k_L ?_;first|refine a_p rfl ?_|(refine k_g ?_;refine a_gy rfl rfl ?_)|(refine k_st ?_;refine g_sw rfl rfl rfl rfl (Nat.le_of_ble_eq_true rfl) ?_)|(refine k_al ?_;refine a_al ?_)|(refine k_bx ?_;refine a_bx rfl rfl ?_)|(refine k_c ?_;refine a_cq rfl (fun m hm=>numE_q) ?_)|(refine g_c rfl (begin_a (x:=x)) (fun v As' hq=>?_);subst hq)|(refine g_c rfl (step_a (x:=x.begin) (n:=(kc:Int)) hsb (by omega)) (fun v As' hq=>?_);obtain⟨z,rfl,rfl,hz⟩:=hq))
   |refine a_n ?_
   |(refine k_V ?_;first|refine v_seq ?_|refine v_reg ?_|refine v_bs ?_|refine v_ret ?_|refine v_ct rfl ?_|refine v_cf rfl ?_|(refine v_cd rfl (fun hb=>?_) (fun hb=>?_)<;>try(exfalso;omega)))
   |refine sk_zero ?_
   |refine sk_succ ?_
   |refine wk_nil ?_
   |refine wk_cons ?_)
  all_goals first
   |(exfalso;omega)
   |exact fa_r (fun _ _=>rfl) (Pm.ent pmt) ⟨z,rfl,rfl,by rw[hz,pb];unfold Heap.stepH stepN;rw[if_neg hn,if_neg hn]⟩
theorem smp_23(h:Sound x.H)(hP:ActP ⟨23,ka,kb,kc,n⟩):FnA Tryz.prog 125 [eV a,.agg #[.int .i64 23,.int .i64 ka,.int .i64 kb,.int .i64 kc,.int .i64 n]] (hp a x) (fun v As=>∃z:HX,v=an 0 0∧As=hp a z∧z.H={x.H with per:=kb,start:=kc}):=by
 refine fnA_of (fun h=>fn125 (by simp) h) ?_
 repeat' (first
  |(refine k_L ?_;first|refine a_p rfl ?_|(refine k_al ?_;refine a_al ?_)|(refine k_bx ?_;refine a_bx rfl rfl ?_))
  |refine a_n ?_
  |(refine k_V ?_;first|refine v_seq ?_|refine v_reg ?_|refine v_bs ?_|refine v_ct rfl ?_|refine v_cf rfl ?_))
 refine v_hreg (Gs:=hp a x) [] pmt ?_
 repeat' (first
  |(refine k_L ?_;first|refine a_p rfl ?_|(refine k_st ?_;first|refine g_st rfl rfl rfl rfl ?_|refine g_sw rfl rfl rfl rfl (Nat.le_of_ble_eq_true rfl) ?_)|(refine k_c ?_;refine a_cq rfl (fun m hm=>numE_q) ?_))
  |refine a_n ?_
  |(refine k_V ?_;first|refine v_seq ?_|refine v_reg ?_|refine v_ret ?_)
  |refine sk_zero ?_
  |refine sk_succ ?_
  |refine wk_nil ?_
  |refine wk_cons ?_
  |refine t_a ?_ t_n
  |refine t_f ?_ t_n
  |refine t_d ?_
  |refine kl_1 rfl ?_
  |refine kl_0 ?_)
 all_goals exact fa_r (fun _ _=>rfl) (Pm.ent (fin ({x with per:=kb,start:=kc}:HX))) ⟨_,rfl,rfl,rfl⟩
theorem smp_24(h:Sound x.H)(hP:ActP ⟨24,ka,kb,kc,n⟩):FnA Tryz.prog 125 [eV a,.agg #[.int .i64 24,.int .i64 ka,.int .i64 kb,.int .i64 kc,.int .i64 n]] (hp a x) (fun v As=>∃z:HX,v=an 0 0∧As=hp a z∧z.H=x.H.roundH):=by
 refine fnA_of (fun h=>fn125 (by simp) h) ?_
 repeat' (first
  |(refine k_L ?_;first|refine a_p rfl ?_|(refine k_st ?_;refine g_sw rfl rfl rfl rfl (Nat.le_of_ble_eq_true rfl) ?_)|(refine k_al ?_;refine a_al ?_)|(refine k_bx ?_;refine a_bx rfl rfl ?_)|(refine k_c ?_;refine a_cq rfl (fun m hm=>numE_q) ?_)|(refine g_c rfl (round_a (x:=x) h) (fun v As' hq=>?_);obtain⟨z,rfl,hz⟩:=hq))
  |refine a_n ?_
  |(refine k_V ?_;first|refine v_seq ?_|refine v_reg ?_|refine v_bs ?_|refine v_ret ?_|refine v_ct rfl ?_|refine v_cf rfl ?_)
  |refine sk_zero ?_
  |refine sk_succ ?_
  |refine wk_nil ?_
  |refine wk_cons ?_)
 all_goals exact fa_r (fun _ _=>rfl) (Pm.ent pmt) ⟨z,rfl,rfl,hz⟩
end
def outE(a:Nat)(o:Out):Value→List Asr→Prop:=fun v As=>∃z:HX,v=an o.code o.num∧As=hp a z∧z.H=o.heap
section
variable {a:Nat} {x:HX} {op n:Int} {ka kb kc:Nat} {o:Out}
theorem smp_1(h:Sound x.H)(ha:ka≤15)(hb:kb≤255)(hc:kc≤200):FnA Tryz.prog 125 [eV a,.agg #[.int .i64 1,.int .i64 ka,.int .i64 kb,.int .i64 kc,.int .i64 n]] (hp a x) (outE a (doNew x.H ⟨1,ka,kb,kc,n⟩)):=by
 refine fnA_of (fun h=>fn125 (by simp) h) ?_
 repeat' (first
  |(refine k_L ?_;first|refine a_p rfl ?_|(refine k_st ?_;refine g_sw rfl rfl rfl rfl (Nat.le_of_ble_eq_true rfl) ?_)|(refine k_al ?_;refine a_al ?_)|(refine k_bx ?_;refine a_bx rfl rfl ?_)|(refine g_c rfl (make_a (x:=x) (op:=1) (n:=n) h ha hb hc) (fun v As' hq=>?_);obtain⟨z,rfl,rfl,hz⟩:=hq))
  |refine a_n ?_
  |(refine k_V ?_;first|refine v_seq ?_|refine v_reg ?_|refine v_bs ?_|refine v_ret ?_|refine v_ct rfl ?_)
  |refine s_r ?_
  |refine b_r ?_
  |refine sk_zero ?_
  |refine sk_succ ?_
  |refine wk_nil ?_
  |refine wk_cons ?_)
 exact fa_r (fun _ _=>rfl) (Pm.ent pmt) ⟨z,rfl,rfl,hz⟩
theorem doS(hop:¬(5≤op∧op≤12)∧op≠16∧op≠17)(hs:FnA Tryz.prog 125 [eV a,.agg #[.int .i64 op,.int .i64 ka,.int .i64 kb,.int .i64 kc,.int .i64 n]] (hp a x) (outE a o)):
 FnA Tryz.prog 84 [eV a,.agg #[.int .i64 op,.int .i64 ka,.int .i64 kb,.int .i64 kc,.int .i64 n]] (hp a x) (outE a o):=by
 refine fnA_of (fun h=>fn84 (by simp) h) ?_
 repeat' (first
  |(refine k_L ?_;first|refine a_p rfl ?_|(refine k_st ?_;refine g_sw rfl rfl rfl rfl (Nat.le_of_ble_eq_true rfl) ?_)|(refine k_al ?_;refine a_al ?_)|(refine k_bx ?_;refine a_bx rfl rfl ?_)|(refine g_c rfl hs (fun v As' hq=>?_);obtain⟨z,rfl,rfl,hz⟩:=hq))
  |refine a_n ?_
  |(refine k_V ?_;first|refine v_seq ?_|refine v_reg ?_|refine v_bs ?_|refine v_ret ?_|(refine v_cd rfl (fun hb=>?_) (fun hb=>?_)<;>try(exfalso;omega)))
  |refine s_r ?_
  |refine b_r ?_
  |refine sk_zero ?_
  |refine sk_succ ?_
  |refine wk_nil ?_
  |refine wk_cons ?_)
 all_goals exact fa_r (fun _ _=>rfl) (Pm.ent pmt) ⟨z,rfl,rfl,hz⟩
end
theorem doE_a{a:Nat}{x:HX}{op n:Int}{ka kb kc:Nat}(h:Sound x.H)(hP:ActP ⟨op,ka,kb,kc,n⟩):FnA Tryz.prog 84 [eV a,.agg #[.int .i64 op,.int .i64 ka,.int .i64 kb,.int .i64 kc,.int .i64 n]] (hp a x) (outE a (doA x.H ⟨op,ka,kb,kc,n⟩)):=by
 have hP0:=hP
 obtain⟨⟨h1,h2⟩,h3,⟨h4,h4'⟩,⟨h5,h5'⟩,h6,h6'⟩:=hP0
 dsimp only at h1 h2 h4 h5 h6 h4' h5' h6'
 have ka15:ka≤15:=by have:=aMost_le op;omega
 have ho:op=1∨op=2∨op=3∨op=4∨op=5∨op=6∨op=7∨op=8∨op=9∨op=10∨op=11∨op=12∨op=13∨op=14∨op=15∨op=16∨op=17∨op=18∨op=19∨op=20∨op=21∨op=22∨op=23∨op=24:=by omega
 rcases ho with rfl|rfl|rfl|rfl|rfl|rfl|rfl|rfl|rfl|rfl|rfl|rfl|rfl|rfl|rfl|rfl|rfl|rfl|rfl|rfl|rfl|rfl|rfl|rfl
 ·simp[bMost,cMost]at h5' h6'
  exact doS (by omega) (smp_1 h ka15 (by omega) (by omega))
 ·exact doS (by omega) (smp_2 h hP)
 ·exact doS (by omega) (smp_3 h hP)
 ·exact doS (by omega) (smp_4 h hP)
 ·simp[bMost,cMost]at h5' h6'
  exact doE_rd h ka15 (by omega) (by omega)
 ·simp[bMost,cMost]at h5' h6'
  exact doE_rd h ka15 (by omega) (by omega)
 ·simp[bMost,cMost]at h5' h6'
  exact doE_wr h ka15 (by omega) (by omega)
 ·simp[bMost,cMost]at h5' h6'
  exact doE_wr h ka15 (by omega) (by omega)
 ·simp[bMost,cMost]at h5' h6'
  exact doE_cell h ka15 (by omega) (by omega)
 ·simp[bMost,cMost]at h5' h6'
  exact doE_cell h ka15 (by omega) (by omega)
 ·simp[bMost,cMost]at h5' h6'
  exact doE_cell h ka15 (by omega) (by omega)
 ·simp[bMost,cMost]at h5' h6'
  exact doE_last h ka15 (by omega) rfl
 ·exact doS (by omega) ((smp_13 h hP).mono fun v As hq=>⟨x,hq.1,hq.2,rfl⟩)
 ·exact doS (by omega) ((smp_14 h hP).mono fun v As hq=>⟨x,hq.1,hq.2,rfl⟩)
 ·refine doS (by omega) ((smp_15 h hP).mono fun v As hq=>⟨x,?_,hq.2,?_⟩)
  ·rw[hq.1]
   show _=an (if(x.H.getR ka).kind=1 then(⟨x.H,0,(x.H.getR ka).num⟩:Out)else⟨x.H,2,0⟩).code (if(x.H.getR ka).kind=1 then(⟨x.H,0,(x.H.getR ka).num⟩:Out)else⟨x.H,2,0⟩).num
   split<;>rfl
  ·show x.H=(if(x.H.getR ka).kind=1 then(⟨x.H,0,(x.H.getR ka).num⟩:Out)else⟨x.H,2,0⟩).heap
   split<;>rfl
 ·simp[bMost,cMost]at h5' h6'
  exact doE_cell h ka15 (by omega) (by omega)
 ·simp[bMost,cMost]at h5' h6'
  exact doE_cell h ka15 (by omega) (by omega)
 ·exact doS (by omega) (smp_18 h hP)
 ·exact doS (by omega) (smp_19 h hP)
 ·exact doS (by omega) ((smp_20 h hP).mono fun v As hq=>⟨x,hq.1,hq.2,rfl⟩)
 ·exact doS (by omega) ((smp_21 h hP).mono fun v As hq=>⟨x,hq.1,hq.2,rfl⟩)
 ·exact doS (by omega) (smp_22 h hP)
 ·exact doS (by omega) (smp_23 h hP)
 ·exact doS (by omega) (smp_24 h hP)
theorem act_a{m:Mem}{a:Nat}{x:HX}{b:Act}(hf:Frm m)(h:Sound x.H):FnA Tryz.prog 45 [eV a,actV b] (hp a x++[ro m]) (fun v As=>∃z:HX,v=an (actA x.H b).code (actA x.H b).num∧As=hp a z++[ro m]∧z.H=(actA x.H b).heap):=by
 obtain⟨op,aa,ab,ac,n⟩:=b
 refine fnA_of (fun h=>fn45 (by simp) h) ?_
 by_cases hP:ActP ⟨op,aa,ab,ac,n⟩
 ·have e:actA x.H ⟨op,aa,ab,ac,n⟩=doA x.H ⟨op,aa,ab,ac,n⟩:=by unfold actA;rw[if_pos hP]
  rw[e]
  have hP0:=hP
  obtain⟨_,_,⟨h4,_⟩,⟨h5,_⟩,h6,_⟩:=hP0
  dsimp only at h4 h5 h6
  obtain⟨ka,rfl⟩:=Int.eq_ofNat_of_zero_le h4
  obtain⟨kb,rfl⟩:=Int.eq_ofNat_of_zero_le h5
  obtain⟨kc,rfl⟩:=Int.eq_ofNat_of_zero_le h6
  repeat' (first
   |(refine k_L ?_;first|refine a_p rfl ?_|(refine k_st ?_;refine g_sw rfl rfl rfl rfl (Nat.le_of_ble_eq_true rfl) ?_)|(refine k_al ?_;refine a_al ?_)|(refine k_bx ?_;refine a_bx rfl rfl ?_)|(refine k_c ?_;refine a_cq rfl (fun m hm=>qt_e (implActOk_q (a:=⟨op,ka,kb,kc,n⟩) (hf.le (ro_of hm pmt))) (congrArg Value.bool (decide_eq_true hP))) ?_)|(refine g_c rfl (doE_a (x:=x) (op:=op) (n:=n) (ka:=ka) (kb:=kb) (kc:=kc) h hP) (fun v As' hq=>?_);obtain⟨z,rfl,rfl,hz⟩:=hq))
   |refine a_n ?_
   |(refine k_V ?_;first|refine v_seq ?_|refine v_reg ?_|refine v_ret ?_|refine v_skip ?_|refine v_cf rfl ?_)
   |refine sk_zero ?_
   |refine sk_succ ?_
   |refine wk_nil ?_
   |refine wk_cons ?_)
  all_goals exact fa_r (As':=hp a z++[ro m]) (fun _ _=>rfl) (Pm.ent pmt) ⟨z,rfl,rfl,hz⟩
 ·have e:actA x.H ⟨op,aa,ab,ac,n⟩=⟨x.H,1,0⟩:=by unfold actA;rw[if_neg hP]
  rw[e]
  repeat' (first
   |(refine k_L ?_;first|refine a_p rfl ?_|(refine k_st ?_;refine g_sw rfl rfl rfl rfl (Nat.le_of_ble_eq_true rfl) ?_)|(refine k_al ?_;refine a_al ?_)|(refine k_bx ?_;refine a_bx rfl rfl ?_)|(refine k_c ?_;first|refine a_cq rfl (fun m hm=>codeE_q) ?_|refine a_cq rfl (fun m hm=>qt_e (implActOk_q (a:=⟨op,aa,ab,ac,n⟩) (hf.le (ro_of hm pmt))) (congrArg Value.bool (decide_eq_false hP))) ?_))
   |refine a_n ?_
   |(refine k_V ?_;first|refine v_seq ?_|refine v_reg ?_|refine v_ret ?_|refine v_ct rfl ?_)
   |refine s_r ?_
   |refine sk_zero ?_
   |refine sk_succ ?_
   |refine wk_nil ?_
   |refine wk_cons ?_)
  all_goals exact fa_r (As':=hp a x++[ro m]) (fun _ _=>rfl) (Pm.ent pmt) ⟨x,rfl,rfl,rfl⟩
theorem l5cell_g{a:Nat}{x:HX}{n:Int}{ka kb kc:Nat}(h:Sound x.H)(ha:ka≤15)(hc:kc≤200):FnA Tryz.prog 57 [ptr a,.agg #[.int .i64 9,.int .i64 ka,.int .i64 kb,.int .i64 kc,.int .i64 n]] (hp a x) (fun v As=>∃z:HX,v=an (doCell x.H ⟨9,ka,kb,kc,n⟩).code (doCell x.H ⟨9,ka,kb,kc,n⟩).num∧As=hp a z∧z.H=(doCell x.H ⟨9,ka,kb,kc,n⟩).heap):=by
 have hl:=x.len
 have hnc:x.hdr.nc=x.xs.length:=rfl
 have hnr:x.hdr.nr=x.regs.length:=rfl
 have h16:x.regs.length=16:=h.r1.regs
 obtain⟨w,gw⟩:∃w,x.regs[ka]?=some w:=⟨_,List.getElem?_eq_getElem (by omega)⟩
 have er:x.H.getR ka=w:=getR_at gw
 refine fnA_of (fun h=>fn57 (by simp) h) ?_
 unfold doCell
 dsimp only
 rw[er]
 by_cases hk:w.kind=2
 ·obtain⟨wk,wn,wat⟩:=w
  dsimp only at hk
  subst hk
  rw[if_neg (fun e=>e rfl)]
  repeat' (first
   |(refine k_L ?_;first|refine a_p rfl ?_|(refine k_l ?_;refine g_l rfl ?_)|(refine k_i ?_;refine g_i rfl rfl ?_)|(refine k_ls ?_;refine g_ls rfl ?_)|(refine k_st ?_;refine g_sw rfl rfl rfl rfl (Nat.le_of_ble_eq_true rfl) ?_)|(refine k_al ?_;refine a_al ?_)|(refine k_bx ?_;refine a_bx rfl rfl ?_)|(refine g_c rfl (l5grow_a (x:=x) (op:=9) (n:=n) (ka:=ka) (kb:=kb) (kc:=kc) h ha hc (by rw[er])) (fun v As' hq=>?_);obtain⟨z,rfl,rfl,hz⟩:=hq))
   |refine a_n ?_
   |(refine k_V ?_;first|refine v_seq ?_|refine v_reg ?_|refine v_dreg ?_|refine v_bs ?_|refine v_ret ?_|refine v_skip ?_|refine v_ct rfl ?_|refine v_cf rfl ?_)
   |refine s_r ?_
   |refine b_r ?_
   |refine sk_zero ?_
   |refine sk_succ ?_
   |refine wk_nil ?_
   |refine wk_cons ?_)
  all_goals exact fa_r (fun _ _=>rfl) (Pm.ent pmt) ⟨z,rfl,rfl,hz⟩
 ·rw[if_pos hk]
  repeat' (first
   |(refine k_L ?_;first|refine a_p rfl ?_|(refine k_l ?_;refine g_l rfl ?_)|(refine k_i ?_;refine g_i rfl rfl ?_)|(refine k_ls ?_;refine g_ls rfl ?_)|(refine k_st ?_;refine g_sw rfl rfl rfl rfl (Nat.le_of_ble_eq_true rfl) ?_)|(refine k_al ?_;refine a_al ?_)|(refine k_bx ?_;refine a_bx rfl rfl ?_)|(refine k_c ?_;refine a_cq rfl (fun m hm=>l5bad_q) ?_))
   |refine a_n ?_
   |(refine k_V ?_;first|refine v_seq ?_|refine v_reg ?_|refine v_dreg ?_|refine v_ret ?_|(refine v_cn rfl (fun hb=>?_) (fun hb=>?_)<;>try(exfalso;omega)))
   |refine s_r ?_
   |refine sk_zero ?_
   |refine sk_succ ?_
   |refine wk_nil ?_
   |refine wk_cons ?_)
  all_goals exact fa_r (fun _ _=>rfl) (Pm.ent pmt) ⟨x,rfl,rfl,rfl⟩
theorem do_9{a:Nat}{x:HX}{n:Int}{ka kb kc:Nat}(h:Sound x.H)(hP:ActP ⟨9,ka,kb,kc,n⟩):FnA Tryz.prog 26 [ptr a,.agg #[.int .i64 9,.int .i64 ka,.int .i64 kb,.int .i64 kc,.int .i64 n]] (hp a x) (fun v As=>∃z:HX,v=an (doCell x.H ⟨9,ka,kb,kc,n⟩).code (doCell x.H ⟨9,ka,kb,kc,n⟩).num∧As=hp a z∧z.H=(doCell x.H ⟨9,ka,kb,kc,n⟩).heap):=by
 have hQ:=hP
 simp[ActP,aMost,bMost,cMost]at hQ
 refine fnA_of (fun h=>fn26 (by simp) h) ?_
 repeat' (first
  |(refine k_L ?_;first|refine a_p rfl ?_|(refine k_st ?_;refine g_sw rfl rfl rfl rfl (Nat.le_of_ble_eq_true rfl) ?_)|(refine k_al ?_;refine a_al ?_)|(refine k_bx ?_;refine a_bx rfl rfl ?_)|(refine k_c ?_;refine a_cq rfl (fun m hm=>actOk_t (b:=⟨9,ka,kb,kc,n⟩) hP) ?_)|(refine g_c rfl (l5cell_g (x:=x) (n:=n) (ka:=ka) (kb:=kb) (kc:=kc) h (by omega) (by omega)) (fun v As' hq=>?_);obtain⟨z,rfl,rfl,hz⟩:=hq))
  |refine a_n ?_
  |(refine k_V ?_;first|refine v_seq ?_|refine v_reg ?_|refine v_bs ?_|refine v_ret ?_|refine v_skip ?_|refine v_ct rfl ?_|refine v_cf rfl ?_)
  |refine s_r ?_
  |refine b_r ?_
  |refine sk_zero ?_
  |refine sk_succ ?_
  |refine wk_nil ?_
  |refine wk_cons ?_)
 all_goals exact fa_r (fun _ _=>rfl) (Pm.ent pmt) ⟨z,rfl,rfl,hz⟩
theorem do_10{a:Nat}{x:HX}{n:Int}{ka kb kc:Nat}(h:Sound x.H)(hP:ActP ⟨10,ka,kb,kc,n⟩):FnA Tryz.prog 26 [ptr a,.agg #[.int .i64 10,.int .i64 ka,.int .i64 kb,.int .i64 kc,.int .i64 n]] (hp a x) (fun v As=>∃z:HX,v=an (doCell x.H ⟨10,ka,kb,kc,n⟩).code (doCell x.H ⟨10,ka,kb,kc,n⟩).num∧As=hp a z∧z.H=(doCell x.H ⟨10,ka,kb,kc,n⟩).heap):=by
 have hQ:=hP
 simp[ActP,aMost,bMost,cMost]at hQ
 refine fnA_of (fun h=>fn26 (by simp) h) ?_
 repeat' (first
  |(refine k_L ?_;first|refine a_p rfl ?_|(refine k_st ?_;refine g_sw rfl rfl rfl rfl (Nat.le_of_ble_eq_true rfl) ?_)|(refine k_al ?_;refine a_al ?_)|(refine k_bx ?_;refine a_bx rfl rfl ?_)|(refine k_c ?_;refine a_cq rfl (fun m hm=>actOk_t (b:=⟨10,ka,kb,kc,n⟩) hP) ?_)|(refine g_c rfl (l5cell_b (x:=x) (op:=10) (n:=n) (ka:=ka) (kb:=kb) (kc:=kc) h (by omega) (by omega)) (fun v As' hq=>?_);obtain⟨z,rfl,rfl,hz⟩:=hq))
  |refine a_n ?_
  |(refine k_V ?_;first|refine v_seq ?_|refine v_reg ?_|refine v_bs ?_|refine v_ret ?_|refine v_skip ?_|refine v_ct rfl ?_|refine v_cf rfl ?_)
  |refine s_r ?_
  |refine b_r ?_
  |refine sk_zero ?_
  |refine sk_succ ?_
  |refine wk_nil ?_
  |refine wk_cons ?_)
 all_goals exact fa_r (fun _ _=>rfl) (Pm.ent pmt) ⟨z,rfl,rfl,hz⟩
theorem do_11{a:Nat}{x:HX}{n:Int}{ka kb kc:Nat}(h:Sound x.H)(hP:ActP ⟨11,ka,kb,kc,n⟩):FnA Tryz.prog 26 [ptr a,.agg #[.int .i64 11,.int .i64 ka,.int .i64 kb,.int .i64 kc,.int .i64 n]] (hp a x) (fun v As=>∃z:HX,v=an (doCell x.H ⟨11,ka,kb,kc,n⟩).code (doCell x.H ⟨11,ka,kb,kc,n⟩).num∧As=hp a z∧z.H=(doCell x.H ⟨11,ka,kb,kc,n⟩).heap):=by
 have hQ:=hP
 simp[ActP,aMost,bMost,cMost]at hQ
 refine fnA_of (fun h=>fn26 (by simp) h) ?_
 repeat' (first
  |(refine k_L ?_;first|refine a_p rfl ?_|(refine k_st ?_;refine g_sw rfl rfl rfl rfl (Nat.le_of_ble_eq_true rfl) ?_)|(refine k_al ?_;refine a_al ?_)|(refine k_bx ?_;refine a_bx rfl rfl ?_)|(refine k_c ?_;refine a_cq rfl (fun m hm=>actOk_t (b:=⟨11,ka,kb,kc,n⟩) hP) ?_)|(refine g_c rfl (l5cell_a (x:=x) (op:=11) (n:=n) (ka:=ka) (kb:=kb) (kc:=kc) h (by omega) (by omega)) (fun v As' hq=>?_);obtain⟨z,rfl,rfl,hz⟩:=hq))
  |refine a_n ?_
  |(refine k_V ?_;first|refine v_seq ?_|refine v_reg ?_|refine v_bs ?_|refine v_ret ?_|refine v_skip ?_|refine v_ct rfl ?_|refine v_cf rfl ?_)
  |refine s_r ?_
  |refine b_r ?_
  |refine sk_zero ?_
  |refine sk_succ ?_
  |refine wk_nil ?_
  |refine wk_cons ?_)
 all_goals exact fa_r (fun _ _=>rfl) (Pm.ent pmt) ⟨z,rfl,rfl,hz⟩
theorem do_12{a:Nat}{x:HX}{n:Int}{ka kb kc:Nat}(h:Sound x.H)(hP:ActP ⟨12,ka,kb,kc,n⟩):FnA Tryz.prog 26 [ptr a,.agg #[.int .i64 12,.int .i64 ka,.int .i64 kb,.int .i64 kc,.int .i64 n]] (hp a x) (fun v As=>∃z:HX,v=an (doCell x.H ⟨12,ka,kb,kc,n⟩).code (doCell x.H ⟨12,ka,kb,kc,n⟩).num∧As=hp a z∧z.H=(doCell x.H ⟨12,ka,kb,kc,n⟩).heap):=by
 have hQ:=hP
 simp[ActP,aMost,bMost,cMost]at hQ
 refine fnA_of (fun h=>fn26 (by simp) h) ?_
 repeat' (first
  |(refine k_L ?_;first|refine a_p rfl ?_|(refine k_st ?_;refine g_sw rfl rfl rfl rfl (Nat.le_of_ble_eq_true rfl) ?_)|(refine k_al ?_;refine a_al ?_)|(refine k_bx ?_;refine a_bx rfl rfl ?_)|(refine k_c ?_;refine a_cq rfl (fun m hm=>actOk_t (b:=⟨12,ka,kb,kc,n⟩) hP) ?_)|(refine g_c rfl (l5cell_b (x:=x) (op:=12) (n:=n) (ka:=ka) (kb:=kb) (kc:=kc) h (by omega) (by omega)) (fun v As' hq=>?_);obtain⟨z,rfl,rfl,hz⟩:=hq))
  |refine a_n ?_
  |(refine k_V ?_;first|refine v_seq ?_|refine v_reg ?_|refine v_bs ?_|refine v_ret ?_|refine v_skip ?_|refine v_ct rfl ?_|refine v_cf rfl ?_)
  |refine s_r ?_
  |refine b_r ?_
  |refine sk_zero ?_
  |refine sk_succ ?_
  |refine wk_nil ?_
  |refine wk_cons ?_)
 all_goals exact fa_r (fun _ _=>rfl) (Pm.ent pmt) ⟨z,rfl,rfl,hz⟩
theorem do_16{a:Nat}{x:HX}{n:Int}{ka kb kc:Nat}(h:Sound x.H)(hP:ActP ⟨16,ka,kb,kc,n⟩):FnA Tryz.prog 26 [ptr a,.agg #[.int .i64 16,.int .i64 ka,.int .i64 kb,.int .i64 kc,.int .i64 n]] (hp a x) (fun v As=>∃z:HX,v=an (doCell x.H ⟨16,ka,kb,kc,n⟩).code (doCell x.H ⟨16,ka,kb,kc,n⟩).num∧As=hp a z∧z.H=(doCell x.H ⟨16,ka,kb,kc,n⟩).heap):=by
 have hQ:=hP
 simp[ActP,aMost,bMost,cMost]at hQ
 refine fnA_of (fun h=>fn26 (by simp) h) ?_
 repeat' (first
  |(refine k_L ?_;first|refine a_p rfl ?_|(refine k_st ?_;refine g_sw rfl rfl rfl rfl (Nat.le_of_ble_eq_true rfl) ?_)|(refine k_al ?_;refine a_al ?_)|(refine k_bx ?_;refine a_bx rfl rfl ?_)|(refine k_c ?_;refine a_cq rfl (fun m hm=>actOk_t (b:=⟨16,ka,kb,kc,n⟩) hP) ?_)|(refine g_c rfl (l5cell_a (x:=x) (op:=16) (n:=n) (ka:=ka) (kb:=kb) (kc:=kc) h (by omega) (by omega)) (fun v As' hq=>?_);obtain⟨z,rfl,rfl,hz⟩:=hq))
  |refine a_n ?_
  |(refine k_V ?_;first|refine v_seq ?_|refine v_reg ?_|refine v_bs ?_|refine v_ret ?_|refine v_skip ?_|refine v_ct rfl ?_|refine v_cf rfl ?_)
  |refine s_r ?_
  |refine b_r ?_
  |refine sk_zero ?_
  |refine sk_succ ?_
  |refine wk_nil ?_
  |refine wk_cons ?_)
 all_goals exact fa_r (fun _ _=>rfl) (Pm.ent pmt) ⟨z,rfl,rfl,hz⟩
theorem do_17{a:Nat}{x:HX}{n:Int}{ka kb kc:Nat}(h:Sound x.H)(hP:ActP ⟨17,ka,kb,kc,n⟩):FnA Tryz.prog 26 [ptr a,.agg #[.int .i64 17,.int .i64 ka,.int .i64 kb,.int .i64 kc,.int .i64 n]] (hp a x) (fun v As=>∃z:HX,v=an (doCell x.H ⟨17,ka,kb,kc,n⟩).code (doCell x.H ⟨17,ka,kb,kc,n⟩).num∧As=hp a z∧z.H=(doCell x.H ⟨17,ka,kb,kc,n⟩).heap):=by
 have hQ:=hP
 simp[ActP,aMost,bMost,cMost]at hQ
 refine fnA_of (fun h=>fn26 (by simp) h) ?_
 repeat' (first
  |(refine k_L ?_;first|refine a_p rfl ?_|(refine k_st ?_;refine g_sw rfl rfl rfl rfl (Nat.le_of_ble_eq_true rfl) ?_)|(refine k_al ?_;refine a_al ?_)|(refine k_bx ?_;refine a_bx rfl rfl ?_)|(refine k_c ?_;refine a_cq rfl (fun m hm=>actOk_t (b:=⟨17,ka,kb,kc,n⟩) hP) ?_)|(refine g_c rfl (l5cell_a (x:=x) (op:=17) (n:=n) (ka:=ka) (kb:=kb) (kc:=kc) h (by omega) (by omega)) (fun v As' hq=>?_);obtain⟨z,rfl,rfl,hz⟩:=hq))
  |refine a_n ?_
  |(refine k_V ?_;first|refine v_seq ?_|refine v_reg ?_|refine v_bs ?_|refine v_ret ?_|refine v_skip ?_|refine v_ct rfl ?_|refine v_cf rfl ?_)
  |refine s_r ?_
  |refine b_r ?_
  |refine sk_zero ?_
  |refine sk_succ ?_
  |refine wk_nil ?_
  |refine wk_cons ?_)
 all_goals exact fa_r (fun _ _=>rfl) (Pm.ent pmt) ⟨z,rfl,rfl,hz⟩
section
variable {a:Nat} {x:HX} {n:Int} {ka kb kc:Nat}
theorem do_2(h:Sound x.H)(hP:ActP ⟨2,ka,kb,kc,n⟩):FnA Tryz.prog 26 [ptr a,.agg #[.int .i64 2,.int .i64 ka,.int .i64 kb,.int .i64 kc,.int .i64 n]] (hp a x) (fun v As=>∃z:HX,v=an 0 0∧As=hp a z∧z.H=x.H.setR ka ⟨1,n,0⟩):=by
 have hQ:=hP
 simp[ActP,aMost,bMost,cMost]at hQ
 have hnr:x.hdr.nr=x.regs.length:=rfl
 have h16:x.regs.length=16:=h.r1.regs
 obtain⟨w,gw⟩:∃w,x.regs[ka]?=some w:=⟨_,List.getElem?_eq_getElem (by omega)⟩
 refine fnA_of (fun h=>fn26 (by simp) h) ?_
 repeat' (first
  |(refine k_L ?_;first|(refine k_l ?_;refine g_l rfl ?_)|(refine k_i ?_;refine g_i rfl rfl ?_)|(refine k_st ?_;first|refine g_st rfl rfl rfl rfl ?_|refine g_sw rfl rfl rfl rfl (Nat.le_of_ble_eq_true rfl) ?_)|(refine k_al ?_;refine a_al ?_)|(refine k_bx ?_;refine a_bx rfl rfl ?_)|(refine k_c ?_;first|refine a_cq rfl (fun m hm=>actOk_t (b:=⟨2,ka,kb,kc,n⟩) hP) ?_|refine a_cq rfl (fun m hm=>l5fine_q) ?_)|(refine b_w ⟨1,n,0⟩ rfl ?_)|(refine b_p rfl ?_))
  |refine a_n ?_
  |(refine k_V ?_;first|refine v_seq ?_|refine v_reg ?_|refine v_dreg ?_|refine v_bs ?_|refine v_ret ?_|refine v_skip ?_|refine v_ct rfl ?_|refine v_cf rfl ?_)
  |refine sk_zero ?_
  |refine sk_succ ?_
  |refine wk_nil ?_
  |refine wk_cons ?_)
 all_goals exact fa_r (fun _ _=>rfl) (Pm.ent (fin ({x with regs:=x.regs.set ka ⟨1,n,0⟩}:HX) (h1:=by simp[HX.hdr]))) ⟨_,rfl,rfl,rfl⟩
theorem do_3(h:Sound x.H)(hP:ActP ⟨3,ka,kb,kc,n⟩):FnA Tryz.prog 26 [ptr a,.agg #[.int .i64 3,.int .i64 ka,.int .i64 kb,.int .i64 kc,.int .i64 n]] (hp a x) (fun v As=>∃z:HX,v=an 0 0∧As=hp a z∧z.H=x.H.setR ka ⟨0,0,0⟩):=by
 have hQ:=hP
 simp[ActP,aMost,bMost,cMost]at hQ
 have hnr:x.hdr.nr=x.regs.length:=rfl
 have h16:x.regs.length=16:=h.r1.regs
 obtain⟨w,gw⟩:∃w,x.regs[ka]?=some w:=⟨_,List.getElem?_eq_getElem (by omega)⟩
 refine fnA_of (fun h=>fn26 (by simp) h) ?_
 repeat' (first
  |(refine k_L ?_;first|(refine k_l ?_;refine g_l rfl ?_)|(refine k_i ?_;refine g_i rfl rfl ?_)|(refine k_st ?_;first|refine g_st rfl rfl rfl rfl ?_|refine g_sw rfl rfl rfl rfl (Nat.le_of_ble_eq_true rfl) ?_)|(refine k_al ?_;refine a_al ?_)|(refine k_bx ?_;refine a_bx rfl rfl ?_)|(refine k_c ?_;first|refine a_cq rfl (fun m hm=>actOk_t (b:=⟨3,ka,kb,kc,n⟩) hP) ?_|refine a_cq rfl (fun m hm=>l5fine_q) ?_)|(refine b_w ⟨0,0,0⟩ rfl ?_)|(refine b_p rfl ?_))
  |refine a_n ?_
  |(refine k_V ?_;first|refine v_seq ?_|refine v_reg ?_|refine v_dreg ?_|refine v_bs ?_|refine v_ret ?_|refine v_skip ?_|refine v_ct rfl ?_|refine v_cf rfl ?_)
  |refine sk_zero ?_
  |refine sk_succ ?_
  |refine wk_nil ?_
  |refine wk_cons ?_)
 all_goals exact fa_r (fun _ _=>rfl) (Pm.ent (fin ({x with regs:=x.regs.set ka ⟨0,0,0⟩}:HX) (h1:=by simp[HX.hdr]))) ⟨_,rfl,rfl,rfl⟩
theorem do_4(h:Sound x.H)(hP:ActP ⟨4,ka,kb,kc,n⟩):FnA Tryz.prog 26 [ptr a,.agg #[.int .i64 4,.int .i64 ka,.int .i64 kb,.int .i64 kc,.int .i64 n]] (hp a x) (fun v As=>∃z:HX,v=an 0 0∧As=hp a z∧z.H=x.H.setR ka (x.H.getR kb)):=by
 have hQ:=hP
 simp[ActP,aMost,bMost,cMost]at hQ
 have hnr:x.hdr.nr=x.regs.length:=rfl
 have h16:x.regs.length=16:=h.r1.regs
 obtain⟨w,gw⟩:∃w,x.regs[ka]?=some w:=⟨_,List.getElem?_eq_getElem (by omega)⟩
 obtain⟨v,gv⟩:∃w,x.regs[kb]?=some w:=⟨_,List.getElem?_eq_getElem (by omega)⟩
 rw[getR_at gv]
 refine fnA_of (fun h=>fn26 (by simp) h) ?_
 repeat' (first
  |(refine k_L ?_;first|refine a_p rfl ?_|(refine k_l ?_;refine g_l rfl ?_)|(refine k_i ?_;refine g_i rfl rfl ?_)|(refine k_ls ?_;refine g_ls rfl ?_)|(refine k_st ?_;first|refine g_st rfl rfl rfl rfl ?_|refine g_sw rfl rfl rfl rfl (Nat.le_of_ble_eq_true rfl) ?_)|(refine k_al ?_;refine a_al ?_)|(refine k_bx ?_;refine a_bx rfl rfl ?_)|(refine k_c ?_;first|refine a_cq rfl (fun m hm=>actOk_t (b:=⟨4,ka,kb,kc,n⟩) hP) ?_|refine a_cq rfl (fun m hm=>l5fine_q) ?_))
  |refine a_n ?_
  |(refine k_V ?_;first|refine v_seq ?_|refine v_reg ?_|refine v_dreg ?_|refine v_bs ?_|refine v_ret ?_|refine v_skip ?_|refine v_ct rfl ?_|refine v_cf rfl ?_)
  |refine sk_zero ?_
  |refine sk_succ ?_
  |refine wk_nil ?_
  |refine wk_cons ?_)
 all_goals exact fa_r (fun _ _=>rfl) (Pm.ent (fin ({x with regs:=x.regs.set ka v}:HX) (h1:=by simp[HX.hdr]))) ⟨_,rfl,rfl,rfl⟩
theorem do_13(h:Sound x.H)(hP:ActP ⟨13,ka,kb,kc,n⟩):FnA Tryz.prog 26 [ptr a,.agg #[.int .i64 13,.int .i64 ka,.int .i64 kb,.int .i64 kc,.int .i64 n]] (hp a x) (fun v As=>v=an 0 (if x.H.getR ka=x.H.getR kb then 1 else 0)∧As=hp a x):=by
 have hQ:=hP
 simp[ActP,aMost,bMost,cMost]at hQ
 have hnr:x.hdr.nr=x.regs.length:=rfl
 have h16:x.regs.length=16:=h.r1.regs
 obtain⟨w,gw⟩:∃w,x.regs[ka]?=some w:=⟨_,List.getElem?_eq_getElem (by omega)⟩
 obtain⟨v,gv⟩:∃w,x.regs[kb]?=some w:=⟨_,List.getElem?_eq_getElem (by omega)⟩
 rw[getR_at gv,getR_at gw]
 obtain⟨wk,wn,wat⟩:=w
 obtain⟨vk,vn,vat⟩:=v
 refine fnA_of (fun h=>fn26 (by simp) h) ?_
 repeat' (first
  |(refine k_L ?_;first|refine a_p rfl ?_|(refine k_l ?_;refine g_l rfl ?_)|(refine k_i ?_;refine g_i rfl rfl ?_)|(refine k_ls ?_;refine g_ls rfl ?_)|(refine k_st ?_;refine g_sw rfl rfl rfl rfl (Nat.le_of_ble_eq_true rfl) ?_)|(refine k_al ?_;refine a_al ?_)|(refine k_bx ?_;refine a_bx rfl rfl ?_)|(refine k_c ?_;first|refine a_cq rfl (fun m hm=>actOk_t (b:=⟨13,ka,kb,kc,n⟩) hP) ?_|refine a_cq rfl (fun m hm=>l5fine_q) ?_))
  |refine a_n ?_
  |(refine k_V ?_;first|refine v_seq ?_|refine v_reg ?_|refine v_dreg ?_|refine v_bs ?_|refine v_ret ?_|refine v_skip ?_|refine v_ct rfl ?_|refine v_cf rfl ?_|(refine v_cond _ rfl (fun hb=>?_) (fun hb=>?_)))
  |refine s_r ?_
  |refine b_r ?_
  |refine sk_zero ?_
  |refine sk_succ ?_
  |refine wk_nil ?_
  |refine wk_cons ?_)
 ·have e:wk=vk∧wn=vn∧wat=vat:=by simpa using hb
  refine fa_r (fun _ _=>rfl) (Pm.ent pmt) ⟨?_,rfl⟩
  rw[if_pos (by rw[e.1,e.2.1,e.2.2])];rfl
 ·have e:¬(wk=vk∧wn=vn∧wat=vat):=fun e=>by
   obtain⟨rfl,rfl,rfl⟩:=e
   simp at hb
  refine fa_r (fun _ _=>rfl) (Pm.ent pmt) ⟨?_,rfl⟩
  rw[if_neg (fun h=>e (by rw[Word.mk.injEq]at h;exact h))];rfl
theorem do_14(h:Sound x.H)(hP:ActP ⟨14,ka,kb,kc,n⟩):FnA Tryz.prog 26 [ptr a,.agg #[.int .i64 14,.int .i64 ka,.int .i64 kb,.int .i64 kc,.int .i64 n]] (hp a x) (fun v As=>v=an 0 (x.H.getR ka).kind∧As=hp a x):=by
 have hQ:=hP
 simp[ActP,aMost,bMost,cMost]at hQ
 have hnr:x.hdr.nr=x.regs.length:=rfl
 have h16:x.regs.length=16:=h.r1.regs
 obtain⟨w,gw⟩:∃w,x.regs[ka]?=some w:=⟨_,List.getElem?_eq_getElem (by omega)⟩
 rw[getR_at gw]
 refine fnA_of (fun h=>fn26 (by simp) h) ?_
 repeat' (first
  |(refine k_L ?_;first|refine a_p rfl ?_|(refine k_l ?_;first|refine a_l rfl (by exact rd_t (rd_h (rd_sl (fun _=>rfl) gw rfl))) ?_|refine g_l rfl ?_)|(refine k_i ?_;refine g_i rfl rfl ?_)|(refine k_st ?_;refine g_sw rfl rfl rfl rfl (Nat.le_of_ble_eq_true rfl) ?_)|(refine k_al ?_;refine a_al ?_)|(refine k_bx ?_;refine a_bx rfl rfl ?_)|(refine k_q ?_;refine a_q rfl (fun m hm=>l5fine_q) ?_)|(refine k_c ?_;refine a_cq rfl (fun m hm=>actOk_t (b:=⟨14,ka,kb,kc,n⟩) hP) ?_))
  |refine a_n ?_
  |(refine k_V ?_;first|refine v_seq ?_|refine v_reg ?_|refine v_dreg ?_|refine v_bs ?_|refine v_ret ?_|refine v_skip ?_|refine v_ct rfl ?_|refine v_cf rfl ?_)
  |refine s_r ?_
  |refine b_r ?_
  |refine sk_zero ?_
  |refine sk_succ ?_
  |refine wk_nil ?_
  |refine wk_cons ?_)
 all_goals exact fa_r (fun _ _=>rfl) (Pm.ent pmt) ⟨rfl,rfl⟩
theorem do_15(h:Sound x.H)(hP:ActP ⟨15,ka,kb,kc,n⟩):FnA Tryz.prog 26 [ptr a,.agg #[.int .i64 15,.int .i64 ka,.int .i64 kb,.int .i64 kc,.int .i64 n]] (hp a x) (fun v As=>v=(if(x.H.getR ka).kind=1 then an 0 (x.H.getR ka).num else an 2 0)∧As=hp a x):=by
 have hQ:=hP
 simp[ActP,aMost,bMost,cMost]at hQ
 have hnr:x.hdr.nr=x.regs.length:=rfl
 have h16:x.regs.length=16:=h.r1.regs
 obtain⟨w,gw⟩:∃w,x.regs[ka]?=some w:=⟨_,List.getElem?_eq_getElem (by omega)⟩
 rw[getR_at gw]
 refine fnA_of (fun h=>fn26 (by simp) h) ?_
 by_cases hk:w.kind=1
 ·rw[if_pos hk]
  repeat' (first
   |(refine k_L ?_;first|refine a_p rfl ?_|(refine k_l ?_;first|refine a_l rfl (by exact rd_t (rd_h (rd_sl (fun _=>rfl) gw rfl))) ?_|refine g_l rfl ?_)|(refine k_i ?_;refine g_i rfl rfl ?_)|(refine k_st ?_;refine g_sw rfl rfl rfl rfl (Nat.le_of_ble_eq_true rfl) ?_)|(refine k_al ?_;refine a_al ?_)|(refine k_bx ?_;refine a_bx rfl rfl ?_)|(refine k_c ?_;refine a_cq rfl (fun m hm=>actOk_t (b:=⟨15,ka,kb,kc,n⟩) hP) ?_))
   |refine a_n ?_
   |(refine k_V ?_;first|refine v_seq ?_|refine v_reg ?_|refine v_dreg ?_|refine v_bs ?_|refine v_ret ?_|refine v_skip ?_|refine v_ct rfl ?_|refine v_cf rfl ?_|(refine v_cn rfl (fun hb=>?_) (fun hb=>?_)<;>try(exfalso;omega)))
   |refine s_r ?_
   |refine b_r ?_
   |refine sk_zero ?_
   |refine sk_succ ?_
   |refine wk_nil ?_
   |refine wk_cons ?_)
  all_goals exact fa_r (fun _ _=>rfl) (Pm.ent pmt) ⟨rfl,rfl⟩
 ·rw[if_neg hk]
  repeat' (first
   |(refine k_L ?_;first|refine a_p rfl ?_|(refine k_l ?_;first|refine a_l rfl (by exact rd_t (rd_h (rd_sl (fun _=>rfl) gw rfl))) ?_|refine g_l rfl ?_)|(refine k_i ?_;refine g_i rfl rfl ?_)|(refine k_st ?_;refine g_sw rfl rfl rfl rfl (Nat.le_of_ble_eq_true rfl) ?_)|(refine k_al ?_;refine a_al ?_)|(refine k_bx ?_;refine a_bx rfl rfl ?_)|(refine k_c ?_;first|refine a_cq rfl (fun m hm=>actOk_t (b:=⟨15,ka,kb,kc,n⟩) hP) ?_|refine a_cq rfl (fun m hm=>l5bad_q) ?_))
   |refine a_n ?_
   |(refine k_V ?_;first|refine v_seq ?_|refine v_reg ?_|refine v_dreg ?_|refine v_bs ?_|refine v_ret ?_|refine v_skip ?_|refine v_ct rfl ?_|refine v_cf rfl ?_|(refine v_cn rfl (fun hb=>?_) (fun hb=>?_)<;>try(exfalso;omega)))
   |refine s_r ?_
   |refine b_r ?_
   |refine sk_zero ?_
   |refine sk_succ ?_
   |refine wk_nil ?_
   |refine wk_cons ?_)
  all_goals exact fa_r (fun _ _=>rfl) (Pm.ent pmt) ⟨rfl,rfl⟩
end
theorem l5do_a{a:Nat}{x:HX}{b:Act}(h:Sound x.H):FnA Tryz.prog 26 [ptr a,actV b] (hp a x) (fun v As=>∃z:HX,v=an (actA x.H b).code (actA x.H b).num∧As=hp a z∧z.H=(actA x.H b).heap):=by
 obtain⟨op,aa,ab,ac,n⟩:=b
 unfold actA
 by_cases hP:ActP ⟨op,aa,ab,ac,n⟩
 ·rw[if_pos hP]
  have hP0:=hP
  obtain⟨⟨h1,h2⟩,h3,⟨h4,_⟩,⟨h5,_⟩,h6,_⟩:=hP0
  dsimp only at h1 h2 h4 h5 h6
  obtain⟨ka,rfl⟩:=Int.eq_ofNat_of_zero_le h4
  obtain⟨kb,rfl⟩:=Int.eq_ofNat_of_zero_le h5
  obtain⟨kc,rfl⟩:=Int.eq_ofNat_of_zero_le h6
  have ho:op=1∨op=2∨op=3∨op=4∨op=5∨op=6∨op=7∨op=8∨op=9∨op=10∨op=11∨op=12∨op=13∨op=14∨op=15∨op=16∨op=17∨op=18∨op=19∨op=20∨op=21∨op=22∨op=23∨op=24:=by omega
  rcases ho with rfl|rfl|rfl|rfl|rfl|rfl|rfl|rfl|rfl|rfl|rfl|rfl|rfl|rfl|rfl|rfl|rfl|rfl|rfl|rfl|rfl|rfl|rfl|rfl
  ·exact do_1 h hP
  ·exact do_2 h hP
  ·exact do_3 h hP
  ·exact do_4 h hP
  ·exact do_5 h hP
  ·exact do_6 h hP
  ·exact do_7 h hP
  ·exact do_8 h hP
  ·exact do_9 h hP
  ·exact do_10 h hP
  ·exact do_11 h hP
  ·exact do_12 h hP
  ·exact(do_13 h hP).mono fun v As hq=>⟨x,hq.1,hq.2,rfl⟩
  ·exact(do_14 h hP).mono fun v As hq=>⟨x,hq.1,hq.2,rfl⟩
  ·refine(do_15 h hP).mono fun v As hq=>⟨x,?_,hq.2,?_⟩
   ·rw[hq.1]
    show _=an (if(x.H.getR ka).kind=1 then(⟨x.H,0,(x.H.getR ka).num⟩:Out)else⟨x.H,2,0⟩).code (if(x.H.getR ka).kind=1 then(⟨x.H,0,(x.H.getR ka).num⟩:Out)else⟨x.H,2,0⟩).num
    split<;>rfl
   ·show x.H=(if(x.H.getR ka).kind=1 then(⟨x.H,0,(x.H.getR ka).num⟩:Out)else⟨x.H,2,0⟩).heap
    split<;>rfl
  ·exact do_16 h hP
  ·exact do_17 h hP
  ·exact do_18 h hP
  ·exact do_19 h hP
  ·exact(do_20 h hP).mono fun v As hq=>⟨x,hq.1,hq.2,rfl⟩
  ·exact(do_21 h hP).mono fun v As hq=>⟨x,hq.1,hq.2,rfl⟩
  ·exact do_22 h hP
  ·exact do_23 h hP
  ·exact do_24 h hP
 ·rw[if_neg hP]
  refine fnA_of (fun h=>fn26 (by simp) h) ?_
  repeat' (first
   |(refine k_L ?_;first|refine a_p rfl ?_|(refine k_st ?_;refine g_sw rfl rfl rfl rfl (Nat.le_of_ble_eq_true rfl) ?_)|(refine k_al ?_;refine a_al ?_)|(refine k_bx ?_;refine a_bx rfl rfl ?_)|(refine k_c ?_;first|refine a_cq rfl (fun m hm=>qt_e (specActOk_q (a:=⟨op,aa,ab,ac,n⟩)) (congrArg Value.bool (decide_eq_false hP))) ?_|refine a_cq rfl (fun m hm=>l5bad_q) ?_))
   |refine a_n ?_
   |(refine k_V ?_;first|refine v_seq ?_|refine v_reg ?_|refine v_ret ?_|refine v_ct rfl ?_)
   |refine s_r ?_
   |refine sk_zero ?_
   |refine sk_succ ?_
   |refine wk_nil ?_
   |refine wk_cons ?_)
  all_goals exact fa_r (fun _ _=>rfl) (Pm.ent pmt) ⟨x,rfl,rfl,rfl⟩
def Pble(room:Int)(acts:List Act):Prop:=(1≤room∧room≤4000)∧acts.length≤1000
noncomputable def playB(room:Int)(acts:List Act):Bool:=decide (Pble room acts)
noncomputable def playL(room:Int)(acts:List Act):List (Int×Int):=if Pble room acts then ansL (Heap.nw room) acts else[]
noncomputable def playH(room:Int)(acts:List Act):Heap:=if Pble room acts then runH (Heap.nw room) acts else Heap.nil
def outPl(m:Mem)(d:D)(room:Int)(acts:List Act)(v:Value)(As:List Asr):Prop:=∃(z:HX) (sd:D),v=plV (playB room acts) sd (playL room acts).length z∧As=z.body++[slA 2 anv sd (playL room acts),slA 5 av d acts,ro m]∧z.H=playH room acts
theorem playable_q'{m:Mem}{room:Int}{sa:Option Addr}{acts:List Act}{cap:Nat}:Qt Tryz.prog 27 [.int .i64 room,.slice sa acts.length cap] m (.bool (playB room acts)):=by
 refine qt_of (fnA_of (fun h=>fn27 (by simp) h) ?_)
 unfold playB Pble
 repeat' (first
  |(refine k_L ?_;first|refine a_p rfl ?_|(refine k_g ?_;first|refine a_gy rfl rfl ?_|refine a_gn rfl rfl ?_|(refine a_gd rfl (fun hb=>?_) (fun hb=>?_)<;>try(exfalso;omega)))|(refine k_c ?_;refine a_cq rfl (fun m hm=>impl.withinQ) ?_))
  |refine a_n ?_
  |(refine k_V ?_;first|refine v_seq ?_|refine v_reg ?_|refine v_ret ?_))
 all_goals exact fa_q (by simp) (fun _ _=>rfl) (by rw[Value.bool.injEq,Bool.eq_iff_iff];simp;omega)
theorem nil_pl{m:Mem}{d:D}{acts:List Act}:Ent [slA 5 av d acts,ro m] (HX.nil.body++[slA 2 anv ⟨none,0⟩ [],slA 5 av d acts,ro m]):=by
 refine Ent.trans (ent_new (f:=anv) (size:=2)) ?_
 refine Ent.trans (ent_new (f:=iv) (size:=1)) ?_
 refine Ent.trans (ent_new (f:=csv) (size:=8)) ?_
 refine Ent.trans (cl_nil (d:=⟨none,0⟩)) ?_
 refine Ent.trans (ent_new (f:=wv) (size:=3)) ?_
 exact Pm.ent pmt
theorem implPlay_p{m:Mem}{acts:List Act}{d:D}{room:Int}(hf:Frm m):FnA Tryz.prog 8 [.int .i64 room,.slice d.a acts.length d.cap] [slA 5 av d acts,ro m] (outPl m d room acts):=by
 by_cases h:Pble room acts
 ·refine(play_a (m:=m) (acts:=acts) (d:=d) (fun a b x _ h=>act_a hf h) h.2 h.1).mono ?_
  rintro v As ⟨z,sd,h1,h2,h3⟩
  unfold outPl playB playL playH
  rw[if_pos h,if_pos h,decide_eq_true h]
  exact⟨z,sd,h1,h2,h3⟩
 ·refine fnA_of (fun h=>fn8 (by simp) h) ?_
  repeat' (first
   |(refine k_L ?_;first|refine a_p rfl ?_|(refine k_st ?_;refine g_sw rfl rfl rfl rfl (Nat.le_of_ble_eq_true rfl) ?_)|(refine k_al ?_;refine a_al ?_)|(refine k_c ?_;refine a_cq rfl (fun m hm=>qt_e (playable_q' (room:=room) (acts:=acts)) (congrArg Value.bool (show playB room acts=false from decide_eq_false h))) ?_))
   |refine a_n ?_
   |(refine k_V ?_;first|refine v_seq ?_|refine v_reg ?_|refine v_ret ?_|refine v_ct rfl ?_)
   |refine s_r ?_
   |refine sk_zero ?_
   |refine sk_succ ?_
   |refine wk_nil ?_
   |refine wk_cons ?_)
  refine fa_r (As':=HX.nil.body++[slA 2 anv ⟨none,0⟩ [],slA 5 av d acts,ro m]) (fun _ _=>rfl) nil_pl ?_
  unfold outPl playB playL playH
  rw[if_neg h,if_neg h,decide_eq_false h]
  exact⟨HX.nil,⟨none,0⟩,rfl,rfl,rfl⟩
theorem l1fresh_n{room:Int}:FnA Tryz.prog 25 [.int .i64 room] [] (fun v As'=>∃(b:Nat) (z:HX),v=ptr b∧As'=hp b z∧z.H=Heap.nw room):=by
 refine fnA_of (fun h=>fn25 (by simp) h) ?_
 repeat' (first
  |(refine k_L ?_;first|refine a_p rfl ?_|(refine a_mk (f:=wv) (n:=16) (k:=16) ⟨0,0,0⟩ wv_len rfl rfl rfl (by omega) (by omega) (fun g hg=>?_)))
  |refine a_n ?_
  |(refine k_V ?_;first|refine v_seq ?_|refine v_reg ?_))
 refine a_nwh (⟨room,0,0,List.replicate 16 ⟨0,0,0⟩,[],0,0,0,[],0,0,0,0,g,⟨none,0⟩,⟨none,0⟩⟩:HX) rfl (fun b=>?_)
 repeat' (first
  |(refine k_L ?_;refine a_p rfl ?_)
  |refine a_n ?_
  |(refine k_V ?_;refine v_ret ?_))
 refine fa_r (As':=hp b (⟨room,0,0,List.replicate 16 ⟨0,0,0⟩,[],0,0,0,[],0,0,0,0,g,⟨none,0⟩,⟨none,0⟩⟩:HX)) (fun _ _=>rfl) ?_ ⟨b,_,rfl,rfl,rfl⟩
 refine Ent.trans (ent_new (f:=iv) (size:=1)) ?_
 refine Ent.trans (ent_new (f:=csv) (size:=8)) ?_
 refine Ent.trans (cl_nil (d:=⟨none,0⟩)) ?_
 exact Pm.ent pmt
theorem specPlay_p{m:Mem}{acts:List Act}{d:D}{room:Int}:FnA Tryz.prog 6 [.int .i64 room,.slice d.a acts.length d.cap] [slA 5 av d acts,ro m] (outPl m d room acts):=by
 refine fnA_of (fun h=>fn6 (by simp) h) ?_
 by_cases h:Pble room acts
 ·have h0:=h
  obtain⟨⟨h1,h2⟩,h3⟩:=h0
  repeat' (first
   |(refine k_L ?_;first|refine a_p rfl ?_|(refine k_g ?_;first|refine a_gy rfl rfl ?_|(refine a_gnd rfl (fun hb=>?_) (fun hb=>?_)<;>try(exfalso;omega)))|(refine k_st ?_;refine g_sw rfl rfl rfl rfl (Nat.le_of_ble_eq_true rfl) ?_)|(refine k_al ?_;refine a_al ?_)|(refine k_c ?_;refine a_cq rfl (fun m hm=>spec.l1inQ) ?_)|(refine g_c rfl l1fresh_n (fun v As' hq=>?_);obtain⟨b,z,rfl,rfl,hz⟩:=hq))
   |refine a_n ?_
   |(refine k_V ?_;first|refine v_seq ?_|refine v_reg ?_|refine v_skip ?_|(refine v_cd rfl (fun hb=>?_) (fun hb=>?_)<;>try(exfalso;omega)))
   |refine s_n ?_
   |refine sk_zero ?_
   |refine sk_succ ?_
   |refine wk_nil ?_
   |refine wk_cons ?_)
  have zS:Sound z.H:=by rw[hz];exact nw_sound (by omega)
  have hzr:∀(sd:D) (n:Nat),(Value.bool true::.slice sd.a n sd.cap::[.int .i64 0,.int .i64 0,.int .i64 0,.slice none 0 0,.slice none 0 0,.int .i64 0,.int .i64 0,.int .i64 0,.slice none 0 0,.int .i64 0,.int .i64 0,.int .i64 0,.int .i64 0]).length=15:=fun _ _=>rfl
  refine g_range acts.length (fun q:HX×D×List (Int×Int)=>[(4,.box [.bool false,.slice none 0 0,.int .i64 0,.int .i64 0,.int .i64 0,.slice none 0 0,.slice none 0 0,.int .i64 0,.int .i64 0,.int .i64 0,.slice none 0 0,.int .i64 0,.int .i64 0,.int .i64 0,.int .i64 0]),(5,.v (ptr b)),(6,.box (.bool true::.slice q.2.1.a q.2.2.length q.2.1.cap::[.int .i64 0,.int .i64 0,.int .i64 0,.slice none 0 0,.slice none 0 0,.int .i64 0,.int .i64 0,.int .i64 0,.slice none 0 0,.int .i64 0,.int .i64 0,.int .i64 0,.int .i64 0])),(21,.v (.slice d.a acts.length d.cap))]) (fun q=>hp b q.1++[slA 2 anv q.2.1 q.2.2,slA 5 av d acts,ro m]) (fun i q=>q.1.H=runH z.H (acts.take i)∧q.2.2=ansL z.H (acts.take i)) (z,⟨none,0⟩,[]) ⟨rfl,rfl⟩ (fun i q hi hv=>?_) (fun q hv=>?_) (hent:=(ent_new (f:=anv) (size:=2)).trans (Pm.ent pmt))
  ·obtain⟨y,sd,l⟩:=q
   obtain⟨v1,v2⟩:=hv
   dsimp only at v1 v2⊢
   obtain⟨e,ge⟩:∃e,acts[i]?=some e:=⟨_,List.getElem?_eq_getElem hi⟩
   have yS:Sound y.H:=by rw[v1];exact runH_sound _ zS
   have et:acts.take (i+1)=acts.take i++[e]:=by rw[List.take_add_one,ge];rfl
   have ll:l.length=i:=by rw[v2,ansL_len,List.length_take];omega
   repeat' (first
    |(refine k_L ?_;first|(refine k_i ?_;refine g_i rfl rfl ?_)|(refine k_st ?_;refine g_sw rfl rfl rfl rfl (Nat.le_of_ble_eq_true rfl) ?_)|(refine k_al ?_;refine a_al ?_)|(refine a_ls rfl (rs_t (rs_t (rs_t (rs_t (rs_t (rs_h (rs_sl av_len5 ge))))))) ?_))
    |refine a_n ?_
    |(refine k_V ?_;first|refine v_seq ?_|refine v_reg ?_)
    |refine s_n ?_
    |refine sk_zero ?_
    |refine sk_succ ?_
    |refine wk_nil ?_
    |refine wk_cons ?_)
   refine v_hreg (Gs:=hp b y++[slA 2 anv sd l,slA 5 av d acts,ro m]) [] pmt ?_
   repeat' (first
    |(refine k_L ?_;first|refine a_p rfl ?_|(refine k_st ?_;refine g_sw rfl rfl rfl rfl (Nat.le_of_ble_eq_true rfl) ?_)|(refine k_bl ?_;refine a_bl rfl ?_)|(refine g_c rfl (l5do_a (x:=y) (b:=e) yS) (fun v As' hq=>?_);obtain⟨u,rfl,rfl,hu⟩:=hq)|(refine g_ap (xs:=l) (e:=sd) ((actA y.H e).code,(actA y.H e).num) anv_len rfl rfl rfl (by omega) (hb:=by omega) (fun e'=>?_)))
    |refine a_n ?_
    |refine sk_zero ?_
    |refine sk_succ ?_
    |refine wk_nil ?_
    |refine wk_cons ?_
    |refine t_a ?_ t_n
    |refine t_f ?_ t_n
    |refine t_d ?_
    |refine kl_1 rfl ?_
    |refine kl_0 ?_)
   exact r_nx (u,e',l++[((actA y.H e).code,(actA y.H e).num)]) ⟨by dsimp only;rw[hu,et,runH_app,←v1],by dsimp only;rw[et,ansL_app,←v1,←v2]⟩
  ·obtain⟨y,sd,l⟩:=q
   obtain⟨v1,v2⟩:=hv
   dsimp only at v1 v2⊢
   rw[List.take_length]at v1 v2
   subst v2
   repeat' (first
    |(refine k_L ?_;first|refine a_p rfl ?_|(refine k_ls ?_;refine g_ls rfl ?_)|(refine k_st ?_;refine g_sw rfl rfl rfl rfl (Nat.le_of_ble_eq_true rfl) ?_))
    |refine a_n ?_
    |(refine k_V ?_;first|refine v_seq ?_|refine v_reg ?_|refine v_ret ?_)
    |refine sk_zero ?_
    |refine sk_succ ?_
    |refine wk_nil ?_
    |refine wk_cons ?_)
   refine fa_r (As':=y.body++[slA 2 anv sd (ansL z.H acts),slA 5 av d acts,ro m]) (fun _ _=>rfl) (Pm.ent pmt) ?_
   unfold outPl playB playL playH
   rw[if_pos h,if_pos h,decide_eq_true h]
   rw[hz]at v1⊢
   exact⟨y,sd,rfl,rfl,v1⟩
 ·have h0:¬((1≤room∧room≤4000)∧acts.length≤1000):=h
  repeat' (first
   |(refine k_L ?_;first|refine a_p rfl ?_|(refine k_g ?_;first|refine a_gy rfl rfl ?_|refine a_gn rfl rfl ?_|(refine a_gnd rfl (fun hb=>?_) (fun hb=>?_)<;>try(exfalso;omega)))|(refine k_st ?_;refine g_sw rfl rfl rfl rfl (Nat.le_of_ble_eq_true rfl) ?_)|(refine k_al ?_;refine a_al ?_)|(refine k_c ?_;refine a_cq rfl (fun m hm=>spec.l1inQ) ?_))
   |refine a_n ?_
   |(refine k_V ?_;first|refine v_seq ?_|refine v_reg ?_|refine v_ret ?_|refine v_ct rfl ?_|(refine v_cd rfl (fun hb=>?_) (fun hb=>?_)<;>try(exfalso;omega)))
   |refine s_r ?_
   |refine sk_zero ?_
   |refine sk_succ ?_
   |refine wk_nil ?_
   |refine wk_cons ?_)
  all_goals first
   |(refine fa_r (As':=HX.nil.body++[slA 2 anv ⟨none,0⟩ [],slA 5 av d acts,ro m]) (fun _ _=>rfl) nil_pl ?_;unfold outPl playB playL playH;rw[if_neg h,if_neg h,decide_eq_false h];exact⟨HX.nil,⟨none,0⟩,rfl,rfl,rfl⟩)
   |(exfalso;omega)
theorem mkG_ow2:∀(k:Int) (ys:List CS),(mkG gCS wCS k ys).flatMap (fun y=>own y.s)=ys.flatMap fun y=>own y.s
 |k,[]=>rfl
 |k,y::r=>by
  simp only[mkG,List.flatMap_cons,gCS_s]
  rw[mkG_ow2]
theorem gH_fp(k:Int)(x:HS):(gH k x).fp=x.fp:=by
 unfold HS.fp gH fpC
 simp only
 rw[mkG_ow2]
theorem markHeap_a{x:HX}{k:Int}(h0:0≤k)(hb:endH k x.H≤4611686018427387904):FnA Tryz.prog 21 [x.v,.int .i64 k] x.body (fun v As=>v=.int .i64 (endH k x.H)∧∃y:HX,y.hs=gH k x.hs∧As=y.body):=
 ⟨fun m hm=>(markHeap_f h0 hb (body_whv hm)).mono fun v M' ⟨h1,h2,h3⟩=>by
   have hw:=body_whv hm
   obtain⟨y,hy,hs⟩:=body_w (y:=gH k x.hs) (M:=M') ⟨h3,by rw[gH_fp];exact hw.nd⟩
   exact⟨y.body,_,resL_le _ _,hs,h1,y,hy,rfl⟩⟩
theorem heldHeap_a{x y:HX}{k:Int}{m:Mem}(h0:0≤k)(hb:endH k x.H≤4611686018427387904)(hy:y.hs=gH k x.hs)(h:Has m y.body):Qt Tryz.prog 34 [x.v,.int .i64 k] m (.int .i64 (endH k x.H)):=by
 have h1:=h.b
 rw[hy]at h1
 exact heldHeap_q' (x:=x.hs) h0 hb rfl h1
def OkK(K:Heap):Prop:=Sound K∨K=Heap.nil
theorem OkK.fin{K:Heap}(h:OkK K):1≤endH 1 K∧endH 1 K≤1000000:=by
 have hn:=pairsN_nonneg K.cells
 rcases h with h|rfl
 ·have h1:=h.r1.regs
  have h2:=h.r1.cells
  have h3:=h.r1.room
  have h4:=h.r1.gray
  have h5:=pairsN_units h.r2
  have h6:=h.r3
  unfold R3 at h6
  rw[endH_eq];omega
 ·rw[endH_eq];simp[Heap.nil,pairsN]
theorem eqAns_t{m:Mem}{c n:Int}:Qt Tryz.prog 46 [an c n,an c n] m (.bool true):=by
 refine qt_of (fnA_of (fun h=>fn46 (by simp) h) ?_)
 repeat' (first
  |(refine k_L ?_;first|refine a_p rfl ?_|(refine k_bx ?_;refine a_bx rfl rfl ?_))
  |refine a_n ?_
  |(refine k_V ?_;first|refine v_rv ?_|refine v_seq ?_|refine v_reg ?_|refine v_skip ?_|(refine v_cn rfl (fun hb=>?_) (fun hb=>?_)<;>try(exfalso;omega))))
 exact fa_q (by simp) (fun _ _=>rfl) rfl
theorem eqAnsS_t{m:Mem}{d e:D}{xs:List (Int×Int)}(hx:Has m [slA 2 anv d xs])(hy:Has m [slA 2 anv e xs]):Qt Tryz.prog 30 [.slice d.a xs.length d.cap,.slice e.a xs.length e.cap] m (.bool true):=by
 have hbd:xs.length≤140737488355328:=by obtain⟨a,l,s⟩:=hx;exact(kn_h bd_sl).out a s
 refine qt_of (fnA_of (fun h=>fn30 (by simp) h) ?_)
 repeat' (first
  |(refine k_L ?_;refine a_p rfl ?_)
  |refine a_n ?_
  |(refine k_V ?_;first|refine v_seq ?_|refine v_reg ?_|refine v_skip ?_|(refine v_cn rfl (fun hb=>?_) (fun hb=>?_)<;>try(exfalso;omega)))
  |refine s_n ?_)
 refine v_blk ?_
 refine v_loop (fun q:Nat=>[(0,SV.v (.slice d.a xs.length d.cap)),(1,SV.v (.slice e.a xs.length e.cap)),(5,SV.v (.int .i64 q))]) (fun _=>[ro m]) (fun t q=>t=xs.length-q∧q≤xs.length) ⟨_,0,⟨rfl,rfl,rfl,trivial⟩,Ent.refl _,rfl,Nat.zero_le _⟩ ?_
 rintro t i ⟨rfl,hi⟩
 by_cases hin:i<xs.length
 ·obtain⟨w,gw⟩:∃w,xs[i]?=some w:=⟨_,List.getElem?_eq_getElem hin⟩
  repeat' (first
   |(refine k_L ?_;first|(refine k_ad ?_;refine g_ad rfl rfl ?_)|refine a_p rfl ?_|(refine k_i ?_;refine g_i rfl rfl ?_)|(refine k_q ?_;refine a_q rfl (fun m hm=>eqAns_t (c:=w.1) (n:=w.2)) ?_)|(refine a_i (e:=d) rfl rfl (kn_h (kn_ro hx (kn_h (bs_sl gw)))) (by omega) ?_)|(refine a_ls rfl (rs_h (rs_ro hx (rs_h (rs_sl (fun _=>rfl) gw)))) ?_)|(refine a_ls rfl (rs_h (rs_ro hy (rs_h (rs_sl (fun _=>rfl) gw)))) ?_))
   |refine a_n ?_
   |(refine k_V ?_;first|refine v_seq ?_|refine v_reg ?_|refine v_dreg ?_|refine v_bs ?_|refine v_skip ?_|refine v_cf rfl ?_|(refine v_cd rfl (fun hb=>?_) (fun hb=>?_)<;>try(exfalso;omega)))
   |refine s_n ?_)
  exact⟨xs.length-(i+1),i+1,by omega,⟨rfl,rfl,rfl,trivial⟩,Ent.refl _,rfl,by omega⟩
 ·have:i=xs.length:=by omega
  subst this
  repeat' (first
   |(refine k_L ?_;refine a_p rfl ?_)
   |refine a_n ?_
   |(refine k_V ?_;first|refine v_rv ?_|refine v_seq ?_|refine v_reg ?_|refine v_exit ?_|(refine v_cd rfl (fun hb=>?_) (fun hb=>?_)<;>try(exfalso;omega))))
  exact fa_q (by simp) (fun _ _=>rfl) rfl
def mkA(k:Int)(n:Nat):List (Int×Int):=(List.range n).map fun i:Nat=>(k+2*(i:Int),k+2*(i:Int)+1)
theorem mkA_len(k:Int)(n:Nat):(mkA k n).length=n:=by simp[mkA]
theorem mkA_at{k:Int}{n i:Nat}(h:i<n):(mkA k n)[i]?=some (k+2*(i:Int),k+2*(i:Int)+1):=by
 unfold mkA
 rw[List.getElem?_map,List.getElem?_range h];rfl
theorem mkA_mid{k:Int}{i:Nat}{xs:List (Int×Int)}(h:i<xs.length):(mkA k i++xs.drop i).set i (k+2*(i:Int),k+2*(i:Int)+1)=mkA k (i+1)++xs.drop (i+1):=by
 rw[List.set_append_right _ _ (by rw[mkA_len];omega),mkA_len,Nat.sub_self,List.drop_eq_getElem_cons h,List.set_cons_zero]
 unfold mkA
 rw[List.range_succ,List.map_append]
 simp
theorem markAnsS_a{sd:D}{L:List (Int×Int)}{k:Int}(h0:0≤k)(hb:k+2*L.length≤4611686018427387904):
 FnA Tryz.prog 32 [.slice sd.a L.length sd.cap,.int .i64 k] [slA 2 anv sd L] (fun v As=>v=.int .i64 (k+2*L.length)∧As=[slA 2 anv sd (mkA k L.length)]):=by
 refine fnA_of (fun h=>fn32 (by simp) h) ?_
 repeat' (first
  |(refine k_L ?_;refine a_p rfl ?_)
  |refine a_n ?_
  |(refine k_V ?_;first|refine v_seq ?_|refine v_reg ?_)
  |refine s_n ?_)
 refine v_blk ?_
 refine v_loop (fun q:Nat=>[(0,SV.v (.slice sd.a L.length sd.cap)),(1,SV.v (.int .i64 (k+2*(q:Int)))),(5,SV.v (.int .i64 q))]) (fun q=>[slA 2 anv sd (mkA k q++L.drop q)]) (fun t q=>t=L.length-q∧q≤L.length) ⟨_,0,⟨rfl,by rw[show k+2*((0:Nat):Int)=k by omega];rfl,rfl,trivial⟩,Ent.refl _,rfl,Nat.zero_le _⟩ ?_
 rintro t i ⟨rfl,hi⟩
 by_cases hin:i<L.length
 ·obtain⟨w,gw⟩:∃w,L[i]?=some w:=⟨_,List.getElem?_eq_getElem hin⟩
  have gm:(mkA k i++L.drop i)[i]?=some w:=by rw[List.getElem?_append_right (by rw[mkA_len];omega),mkA_len,Nat.sub_self,List.getElem?_drop];exact gw
  have gm2:((mkA k i++L.drop i).set i (k+2*(i:Int),w.2))[i]?=some (k+2*(i:Int),w.2):=by
   rw[List.getElem?_set,if_pos rfl,if_pos (by rw[List.length_append,mkA_len,List.length_drop];omega)]
  repeat' (first
   |(refine k_L ?_;first|(refine k_ad ?_;refine g_ad rfl rfl ?_)|refine a_p rfl ?_|(refine k_i ?_;refine g_i rfl rfl ?_)|(refine a_st rfl rfl rfl rfl (up_h (up_sl (j:=0) (e':=(k+2*(i:Int),w.2)) anv_len gm (Nat.le_of_ble_eq_true rfl) rfl)) ?_)|(refine a_st rfl rfl rfl rfl (up_h (up_sl (j:=1) (e':=(k+2*(i:Int),k+2*(i:Int)+1)) anv_len gm2 (Nat.le_of_ble_eq_true rfl) rfl)) ?_))
   |refine a_n ?_
   |(refine k_V ?_;first|refine v_seq ?_|refine v_reg ?_|refine v_bs ?_|refine v_skip ?_|(refine v_cd rfl (fun hb=>?_) (fun hb=>?_)<;>try(exfalso;omega)))
   |refine s_n ?_)
  exact⟨L.length-(i+1),i+1,by omega,⟨rfl,(congrArg (fun z:Int=>SV.v (.int .i64 z)) (by omega):SV.v (.int .i64 (k+2*(i:Int)+1+1))=SV.v (.int .i64 (k+2*((i+1:Nat):Int)))),rfl,trivial⟩,by rw[←mkA_mid hin,List.set_set];exact Ent.refl _,rfl,by omega⟩
 ·have:i=L.length:=by omega
  subst this
  repeat' (first
   |(refine k_L ?_;refine a_p rfl ?_)
   |refine a_n ?_
   |(refine k_V ?_;first|refine v_seq ?_|refine v_reg ?_|refine v_ret ?_|refine v_exit ?_|(refine v_cd rfl (fun hb=>?_) (fun hb=>?_)<;>try(exfalso;omega))))
  exact fa_r (As':=[slA 2 anv sd (mkA k L.length)]) (fun _ _=>rfl) (by rw[List.drop_length,List.append_nil];exact Ent.refl _) ⟨rfl,rfl⟩
theorem heldAnsS_q{sd:D}{k:Int}{n:Nat}{m:Mem}(h0:0≤k)(hb:k+2*n≤4611686018427387904)(h:Has m [slA 2 anv sd (mkA k n)]):Qt Tryz.prog 33 [.slice sd.a n sd.cap,.int .i64 k] m (.int .i64 (k+2*n)):=by
 refine qt_of (fnA_of (fun h=>fn33 (by simp) h) ?_)
 repeat' (first
  |(refine k_L ?_;refine a_p rfl ?_)
  |refine a_n ?_
  |(refine k_V ?_;first|refine v_seq ?_|refine v_reg ?_)
  |refine s_n ?_)
 refine v_blk ?_
 refine v_loop (fun q:Nat=>[(0,SV.v (.slice sd.a n sd.cap)),(1,SV.v (.int .i64 (k+2*(q:Int)))),(5,SV.v (.int .i64 q))]) (fun q=>[ro m]) (fun t q=>t=n-q∧q≤n) ⟨_,0,⟨rfl,by rw[show k+2*((0:Nat):Int)=k by omega];rfl,rfl,trivial⟩,Ent.refl _,rfl,Nat.zero_le _⟩ ?_
 rintro t i ⟨rfl,hi⟩
 by_cases hin:i<n
 ·have gm:=mkA_at (k:=k) hin
  repeat' (first
   |(refine k_L ?_;first|(refine k_ad ?_;refine g_ad rfl rfl ?_)|refine a_p rfl ?_|(refine k_i ?_;refine g_i rfl rfl ?_)|(refine a_l rfl (rd_h (rd_ro h (rd_h (rd_sl (j:=0) (fun _=>rfl) gm rfl)))) ?_)|(refine a_l rfl (rd_h (rd_ro h (rd_h (rd_sl (j:=1) (fun _=>rfl) gm rfl)))) ?_))
   |refine a_n ?_
   |(refine k_V ?_;first|refine v_seq ?_|refine v_reg ?_|refine v_bs ?_|refine v_skip ?_|(refine v_cd rfl (fun hb=>?_) (fun hb=>?_)<;>try(exfalso;omega))|(refine v_cn rfl (fun hb=>?_) (fun hb=>?_)<;>try(exfalso;omega)))
   |refine s_n ?_)
  exact⟨n-(i+1),i+1,by omega,⟨rfl,(congrArg (fun z:Int=>SV.v (.int .i64 z)) (by omega):SV.v (.int .i64 (k+2*(i:Int)+1+1))=SV.v (.int .i64 (k+2*((i+1:Nat):Int)))),rfl,trivial⟩,Ent.refl _,rfl,by omega⟩
 ·have:i=n:=by omega
  subst this
  repeat' (first
   |(refine k_L ?_;refine a_p rfl ?_)
   |refine a_n ?_
   |(refine k_V ?_;first|refine v_seq ?_|refine v_reg ?_|refine v_ret ?_|refine v_exit ?_|(refine v_cd rfl (fun hb=>?_) (fun hb=>?_)<;>try(exfalso;omega))))
  exact fa_q (by simp) (fun _ _=>rfl) rfl
theorem eqActS_t{M:Mem}{va vb:Value}{xs:List Act}(ha:Sl M 5 av va xs)(hb:Sl M 5 av vb xs):Qt Tryz.prog 10 [va,vb] M (.bool true):=by
 have h:=eqActS_q ha hb
 rwa [decide_eq_true rfl]at h
theorem toActS_a{M:Mem}{va:Value}{xs:List Act}(hn:xs.length≤1048576)(ha:SlR M 5 av va xs):FnA Tryz.prog 7 [va] [ro M] (fun v As=>∃d:D,v=.slice d.a xs.length d.cap∧As=[slA 5 av d xs,ro M]):=
 ⟨fun m hm=>by
   obtain⟨a,e',d,rfl,h1,h2⟩:=hm
   have h1:a=M:=h1
   have h2:e'=emp:=h2
   subst h1;subst h2
   rw[un_emp]
   refine(toActS_f hn ha).mono ?_
   rintro v M' ⟨b,hb,ho,hv,hs⟩
   obtain⟨d,rfl,hs'⟩:=sl_res hs
   refine⟨[slA 5 av d xs,ro a],(resL M' (own (.slice d.a xs.length d.cap))).un a,un_le (resL_le _ _) (ho.keep (Mem.le_refl _) hb),⟨_,a,?_,rfl,hs',⟨a,emp,disj_emp _,(un_emp _).symm,rfl,rfl⟩⟩,d,rfl,rfl⟩
   intro c
   by_cases hc:c∈own (.slice d.a xs.length d.cap)
   ·right
    rw[hv,List.mem_singleton]at hc
    rw[hc];exact hb
   ·left;unfold resL;rw[if_neg hc]⟩
theorem markActS_d{d:D}{xs:List Act}{k:Int}(h0:0≤k)(hb:k+5*xs.length≤4611686018427387904):FnA Tryz.prog 11 [.slice d.a xs.length d.cap,.int .i64 k] [slA 5 av d xs] (fun v As=>v=.int .i64 (k+5*xs.length)∧As=[]):=
 have e:mkT wA k xs=k+5*xs.length:=mkT_const (fun _=>rfl) xs k
 ⟨fun m hm=>(markActS_f h0 (by rw[e];exact hb) (has_star hm).sl).mono fun v M' ⟨h1,_,_⟩=>⟨[],emp,fun _ _ h=>(by cases h),rfl,by rw[h1,e],rfl⟩⟩
theorem eqPlayed_t{b:Bool}{x y:HX}{d e:D}{L:List (Int×Int)}{m:Mem}(hx:Has m x.body)(hy:Has m y.body)(hd:Has m [slA 2 anv d L])(he:Has m [slA 2 anv e L])(h:x.H=y.H):Qt Tryz.prog 9 [plV b d L.length x,plV b e L.length y] m (.bool true):=by
 refine qt_of (fnA_of (fun h=>fn9 (by simp) h) ?_)
 unfold plV
 cases b
 ·repeat' (first
   |(refine k_L ?_;first|refine a_p rfl ?_|(refine k_bx ?_;refine a_bx rfl rfl ?_)|(refine k_c ?_;first|refine a_cq rfl (fun m hm=>eqAnsS_t (d:=d) (e:=e) (has_g hd hm) (has_g he hm)) ?_|refine a_cq rfl (fun m hm=>qt_e (eqHeap_q (x:=x.hs) (y:=y.hs) (has_g hx hm).b (has_g hy hm).b) (congrArg Value.bool (decide_eq_true h))) ?_))
   |refine a_n ?_
   |(refine k_V ?_;first|refine v_rv ?_|refine v_seq ?_|refine v_reg ?_|refine v_skip ?_|refine v_cf rfl ?_))
  all_goals exact fa_q (by simp) (fun _ _=>rfl) rfl
 ·repeat' (first
   |(refine k_L ?_;first|refine a_p rfl ?_|(refine k_bx ?_;refine a_bx rfl rfl ?_)|(refine k_c ?_;first|refine a_cq rfl (fun m hm=>eqAnsS_t (d:=d) (e:=e) (has_g hd hm) (has_g he hm)) ?_|refine a_cq rfl (fun m hm=>qt_e (eqHeap_q (x:=x.hs) (y:=y.hs) (has_g hx hm).b (has_g hy hm).b) (congrArg Value.bool (decide_eq_true h))) ?_))
   |refine a_n ?_
   |(refine k_V ?_;first|refine v_rv ?_|refine v_seq ?_|refine v_reg ?_|refine v_skip ?_|refine v_cf rfl ?_))
  all_goals exact fa_q (by simp) (fun _ _=>rfl) rfl
theorem markPlayed_a{b:Bool}{x:HX}{sd:D}{L:List (Int×Int)}{k:Int}(h0:0≤k)(hb:k+2*L.length≤4611686018427387904)(hb2:endH (k+2*L.length) x.H≤4611686018427387904):
 FnA Tryz.prog 12 [plV b sd L.length x,.int .i64 k] (x.body++[slA 2 anv sd L]) (fun v As=>v=.int .i64 (endH (k+2*L.length) x.H)∧∃y:HX,y.hs=gH (k+2*L.length) x.hs∧As=y.body++[slA 2 anv sd (mkA k L.length)]):=by
 refine fnA_of (fun h=>fn12 (by simp) h) ?_
 unfold plV
 repeat' (first
  |(refine k_L ?_;first|refine a_p rfl ?_|(refine k_bx ?_;refine a_bx rfl rfl ?_))
  |refine a_n ?_
  |(refine k_V ?_;first|refine v_seq ?_|refine v_reg ?_))
 refine g_c rfl (markAnsS_a (sd:=sd) (L:=L) (k:=k) h0 hb) (fun v As' hq=>?_)
 obtain⟨rfl,rfl⟩:=hq
 repeat' (first
  |(refine k_L ?_;refine a_p rfl ?_)
  |refine a_n ?_
  |(refine k_V ?_;first|refine v_seq ?_|refine v_reg ?_))
 refine g_c rfl (markHeap_a (x:=x) (k:=k+2*L.length) (by omega) hb2) (fun v As' hq=>?_)
 obtain⟨rfl,gn,hgn,rfl⟩:=hq
 repeat' (first
  |(refine k_L ?_;refine a_p rfl ?_)
  |refine a_n ?_
  |(refine k_V ?_;first|refine v_seq ?_|refine v_reg ?_|refine v_ret ?_))
 exact fa_r (As':=gn.body++[slA 2 anv sd (mkA k L.length)]) (fun _ _=>rfl) (Pm.ent pmt) ⟨rfl,gn,hgn,rfl⟩
theorem heldPlayed_q{b:Bool}{x y:HX}{sd:D}{n:Nat}{k:Int}{m:Mem}(h0:0≤k)(hb:k+2*n≤4611686018427387904)(hb2:0≤endH (k+2*n) x.H∧endH (k+2*n) x.H≤4611686018427387904)(hy:y.hs=gH (k+2*n) x.hs)(h:Has m y.body)(h2:Has m [slA 2 anv sd (mkA k n)]):Qt Tryz.prog 13 [plV b sd n x,.int .i64 k] m (.int .i64 (endH (k+2*n) x.H)):=by
 refine qt_of (fnA_of (fun h=>fn13 (by simp) h) ?_)
 unfold plV
 repeat' (first
  |(refine k_L ?_;first|refine a_p rfl ?_|(refine k_bx ?_;refine a_bx rfl rfl ?_)|(refine k_c ?_;first|refine a_cq rfl (fun m hm=>heldAnsS_q (sd:=sd) (k:=k) (n:=n) h0 hb (has_g h2 hm)) ?_|refine a_cq rfl (fun m hm=>heldHeap_a (x:=x) (k:=k+2*n) (by omega) hb2.2 hy (has_g h hm)) ?_))
  |refine a_n ?_
  |(refine k_V ?_;first|refine v_seq ?_|refine v_reg ?_|refine v_ret ?_|refine v_skip ?_|(refine v_cd rfl (fun hb=>?_) (fun hb=>?_)<;>try(exfalso;omega))))
 exact fa_q (by simp) (fun _ _=>rfl) rfl
theorem playH_ok(room:Int)(acts:List Act):OkK (playH room acts):=by
 unfold playH
 split
 ·rename_i h
  exact .inl (runH_sound acts (nw_sound h.1))
 ·exact .inr rfl
theorem playL_len(room:Int)(acts:List Act):(playL room acts).length≤1000:=by
 unfold playL
 split
 ·rename_i h
  rw[ansL_len];exact h.2
 ·simp
theorem fnExactPlay_q{M:Mem}{va:Value}{acts:List Act}{room:Int}(ha:SlR M 5 av va acts)(hf:Frm M):Qt Tryz.prog 3 [.int .i64 room,va] M (.bool true):=by
 obtain⟨aa,ca,ea⟩:=ha.len
 subst ea
 refine qt_of (fnA_of (fun h=>fn3 (by simp) h) ?_)
 repeat' (first
  |(refine k_L ?_;first|refine a_p rfl ?_|(refine k_c ?_;refine a_cq rfl (fun m hm=>szActS_q (l:=1048576) (by omega) (by omega) (ha.le (ro_of hm pmt))) ?_))
  |refine a_n ?_
  |(refine k_V ?_;first|refine v_rv ?_|refine v_seq ?_|refine v_reg ?_|refine v_skip ?_|(refine v_cd rfl (fun hb=>?_) (fun hb=>?_)<;>try(exfalso;omega)))
  |refine s_r ?_)
 ·exact fa_q (by simp) (fun _ _=>rfl) rfl
 have hb':acts.length≤1048576:=by
  by_cases h:(acts.length:Int)≤1048576
  ·omega
  ·rw[if_neg h]at*;omega
 obtain⟨k1,k2⟩:=(playH_ok room acts).fin
 have hl:=playL_len room acts
 refine g_c rfl (toActS_a hb' ha) (fun v As' hq=>?_)
 obtain⟨d0,rfl,rfl⟩:=hq
 repeat' (first
  |(refine k_L ?_;first|(refine k_ad ?_;refine g_ad rfl rfl ?_)|(refine k_su ?_;refine g_su rfl rfl ?_)|(refine k_ml ?_;refine g_ml rfl rfl ?_)|refine a_p rfl ?_|(refine k_g ?_;first|refine a_gy rfl rfl ?_|refine a_gn rfl rfl ?_|refine a_gu rfl ?_|(refine a_gd rfl (fun hb=>?_) (fun hb=>?_)<;>try(exfalso;omega))|(refine a_ge rfl (fun hb=>?_) (fun hb=>?_)<;>try(exfalso;omega))|(refine a_gne rfl (fun hb=>?_) (fun hb=>?_)<;>try(exfalso;omega))|(refine a_gnd rfl (fun hb=>?_) (fun hb=>?_)<;>try(exfalso;omega)))|(refine k_l ?_;refine g_l rfl ?_)|(refine k_i ?_;refine g_i rfl rfl ?_)|(refine k_ls ?_;refine g_ls rfl ?_)|(refine k_st ?_;first|refine g_st rfl rfl rfl rfl ?_|refine g_sw rfl rfl rfl rfl (Nat.le_of_ble_eq_true rfl) ?_)|(refine k_al ?_;refine a_al ?_)|(refine k_bx ?_;refine a_bx rfl rfl ?_)|(refine k_bl ?_;refine a_bl rfl ?_)|(refine k_p ?_;first|(refine a_pd rfl (fun hb=>?_) (fun hb=>?_)<;>try(exfalso;omega))|(refine a_pe rfl (fun hb=>?_) (fun hb=>?_)<;>try(exfalso;omega))|(refine a_pne rfl (fun hb=>?_) (fun hb=>?_)<;>try(exfalso;omega))|(refine a_pnd rfl (fun hb=>?_) (fun hb=>?_)<;>try(exfalso;omega))))
  |refine a_n ?_
  |(refine k_V ?_;first|refine v_rv ?_|refine v_seq ?_|refine v_reg ?_|refine v_dreg ?_|refine v_zreg ?_|refine v_bs ?_|refine v_br ?_|refine v_bd ?_|refine v_bc ?_|refine v_bk ?_|refine v_bb ?_|refine v_ret ?_|refine v_exit ?_|refine v_skip ?_|refine v_ct rfl ?_|refine v_cf rfl ?_|(refine v_cd rfl (fun hb=>?_) (fun hb=>?_)<;>try(exfalso;omega))|(refine v_ce rfl (fun hb=>?_) (fun hb=>?_)<;>try(exfalso;omega))|(refine v_cn rfl (fun hb=>?_) (fun hb=>?_)<;>try(exfalso;omega))|(refine v_cnd rfl (fun hb=>?_) (fun hb=>?_)<;>try(exfalso;omega)))
  |refine s_n ?_
  |refine s_r ?_
  |refine s_e ?_
  |refine b_n ?_
  |refine b_r ?_
  |refine b_e ?_
  |refine b_o rfl ?_
  |refine r_rt ?_
  |refine r_bk rfl ?_
  |refine r_ex rfl rfl ?_
  |refine sk_zero ?_
  |refine sk_succ ?_
  |refine wk_nil ?_
  |refine wk_cons ?_)
 refine g_c rfl (specPlay_p (m:=M) (acts:=acts) (d:=d0) (room:=room)) (fun v As' hq=>?_)
 obtain⟨ws,wd,rfl,rfl,hw⟩:=hq
 repeat' (first
  |(refine k_L ?_;first|refine a_p rfl ?_|(refine k_st ?_;refine g_sw rfl rfl rfl rfl (Nat.le_of_ble_eq_true rfl) ?_)|(refine k_al ?_;refine a_al ?_))
  |refine a_n ?_
  |(refine k_V ?_;first|refine v_seq ?_|refine v_reg ?_)
  |refine sk_zero ?_
  |refine sk_succ ?_
  |refine wk_nil ?_
  |refine wk_cons ?_)
 refine g_c rfl (toActS_a hb' ha) (fun v As' hq=>?_)
 obtain⟨d1,rfl,rfl⟩:=hq
 repeat' (first
  |(refine k_L ?_;refine a_p rfl ?_)
  |refine a_n ?_
  |(refine k_V ?_;first|refine v_seq ?_|refine v_reg ?_))
 refine g_c rfl (implPlay_p (m:=M) (acts:=acts) (d:=d1) (room:=room) hf) (fun v As' hq=>?_)
 obtain⟨gs,gd,rfl,rfl,hg⟩:=hq
 repeat' (first
  |(refine k_L ?_;first|refine a_p rfl ?_|(refine k_st ?_;refine g_sw rfl rfl rfl rfl (Nat.le_of_ble_eq_true rfl) ?_)|(refine k_al ?_;refine a_al ?_)|(refine k_c ?_;refine a_cq rfl (fun m hm=>eqPlayed_t (x:=gs) (y:=ws) (d:=gd) (e:=wd) (has_p (Bs:=gs.body) hm) (has_p (Bs:=ws.body) hm) (has_p (Bs:=[slA 2 anv gd (playL room acts)]) hm) (has_p (Bs:=[slA 2 anv wd (playL room acts)]) hm) (hg.trans hw.symm)) ?_))
  |refine a_n ?_
  |(refine k_V ?_;first|refine v_seq ?_|refine v_reg ?_|refine v_skip ?_|refine v_cf rfl ?_)
  |refine sk_zero ?_
  |refine sk_succ ?_
  |refine wk_nil ?_
  |refine wk_cons ?_)
 refine g_c rfl (toActS_a hb' ha) (fun v As' hq=>?_)
 obtain⟨d2,rfl,rfl⟩:=hq
 repeat' (first
  |(refine k_L ?_;first|refine a_p rfl ?_|(refine k_c ?_;refine a_cq rfl (fun m hm=>eqActS_t (has_p (Bs:=[slA 5 av d1 acts]) hm).sl (has_p (Bs:=[slA 5 av d2 acts]) hm).sl) ?_))
  |refine a_n ?_
  |(refine k_V ?_;first|refine v_seq ?_|refine v_reg ?_|refine v_skip ?_|refine v_cf rfl ?_))
 refine g_c rfl (markActS_d (d:=d1) (xs:=acts) (k:=1) (by omega) (by omega)) (fun v As' hq=>?_)
 obtain⟨rfl,rfl⟩:=hq
 repeat' (first
  |(refine k_L ?_;first|refine a_p rfl ?_|(refine k_g ?_;refine a_gy rfl rfl ?_)|(refine k_c ?_;refine a_cq rfl (fun m hm=>eqPlayed_t (x:=gs) (y:=ws) (d:=gd) (e:=wd) (has_p (Bs:=gs.body) hm) (has_p (Bs:=ws.body) hm) (has_p (Bs:=[slA 2 anv gd (playL room acts)]) hm) (has_p (Bs:=[slA 2 anv wd (playL room acts)]) hm) (hg.trans hw.symm)) ?_))
  |refine a_n ?_
  |(refine k_V ?_;first|refine v_seq ?_|refine v_reg ?_|refine v_skip ?_|refine v_cf rfl ?_))
 have he:endH (1+2*((playL room acts).length:Int)) (playH room acts)=endH 1 (playH room acts)+2*((playL room acts).length:Int):=by rw[endH_eq,endH_eq];omega
 refine g_c rfl (markPlayed_a (b:=playB room acts) (x:=gs) (sd:=gd) (L:=playL room acts) (k:=1) (by omega) (by omega) (by rw[hg];omega)) (fun v As' hq=>?_)
 obtain⟨rfl,gn,hgn,rfl⟩:=hq
 rw[hg]
 repeat' (first
  |(refine k_L ?_;first|refine a_p rfl ?_|(refine k_c ?_;refine a_cq rfl (fun m hm=>qt_e (heldPlayed_q (b:=playB room acts) (x:=gs) (y:=gn) (sd:=gd) (n:=(playL room acts).length) (k:=1) (by omega) (by omega) (by rw[hg];omega) hgn (has_p (Bs:=gn.body) hm) (has_p (Bs:=[slA 2 anv gd (mkA 1 (playL room acts).length)]) hm)) (by rw[hg])) ?_))
  |refine a_n ?_
  |(refine k_V ?_;first|refine v_seq ?_|refine v_reg ?_|refine v_skip ?_|(refine v_cd rfl (fun hb=>?_) (fun hb=>?_)<;>try(exfalso;omega))|(refine v_cn rfl (fun hb=>?_) (fun hb=>?_)<;>try(exfalso;omega))))
 refine g_c rfl (toActS_a hb' ha) (fun v As' hq=>?_)
 obtain⟨d3,rfl,rfl⟩:=hq
 repeat' (first
  |(refine k_L ?_;first|(refine k_ad ?_;refine g_ad rfl rfl ?_)|(refine k_su ?_;refine g_su rfl rfl ?_)|(refine k_ml ?_;refine g_ml rfl rfl ?_)|refine a_p rfl ?_|(refine k_g ?_;first|refine a_gy rfl rfl ?_|refine a_gn rfl rfl ?_|refine a_gu rfl ?_|(refine a_gd rfl (fun hb=>?_) (fun hb=>?_)<;>try(exfalso;omega))|(refine a_ge rfl (fun hb=>?_) (fun hb=>?_)<;>try(exfalso;omega))|(refine a_gne rfl (fun hb=>?_) (fun hb=>?_)<;>try(exfalso;omega))|(refine a_gnd rfl (fun hb=>?_) (fun hb=>?_)<;>try(exfalso;omega)))|(refine k_l ?_;refine g_l rfl ?_)|(refine k_i ?_;refine g_i rfl rfl ?_)|(refine k_ls ?_;refine g_ls rfl ?_)|(refine k_st ?_;first|refine g_st rfl rfl rfl rfl ?_|refine g_sw rfl rfl rfl rfl (Nat.le_of_ble_eq_true rfl) ?_)|(refine k_al ?_;refine a_al ?_)|(refine k_bx ?_;refine a_bx rfl rfl ?_)|(refine k_bl ?_;refine a_bl rfl ?_)|(refine k_p ?_;first|(refine a_pd rfl (fun hb=>?_) (fun hb=>?_)<;>try(exfalso;omega))|(refine a_pe rfl (fun hb=>?_) (fun hb=>?_)<;>try(exfalso;omega))|(refine a_pne rfl (fun hb=>?_) (fun hb=>?_)<;>try(exfalso;omega))|(refine a_pnd rfl (fun hb=>?_) (fun hb=>?_)<;>try(exfalso;omega))))
  |refine a_n ?_
  |(refine k_V ?_;first|refine v_rv ?_|refine v_seq ?_|refine v_reg ?_|refine v_dreg ?_|refine v_zreg ?_|refine v_bs ?_|refine v_br ?_|refine v_bd ?_|refine v_bc ?_|refine v_bk ?_|refine v_bb ?_|refine v_ret ?_|refine v_exit ?_|refine v_skip ?_|refine v_ct rfl ?_|refine v_cf rfl ?_|(refine v_cd rfl (fun hb=>?_) (fun hb=>?_)<;>try(exfalso;omega))|(refine v_ce rfl (fun hb=>?_) (fun hb=>?_)<;>try(exfalso;omega))|(refine v_cn rfl (fun hb=>?_) (fun hb=>?_)<;>try(exfalso;omega))|(refine v_cnd rfl (fun hb=>?_) (fun hb=>?_)<;>try(exfalso;omega)))
  |refine s_n ?_
  |refine s_r ?_
  |refine s_e ?_
  |refine b_n ?_
  |refine b_r ?_
  |refine b_e ?_
  |refine b_o rfl ?_
  |refine r_rt ?_
  |refine r_bk rfl ?_
  |refine r_ex rfl rfl ?_
  |refine sk_zero ?_
  |refine sk_succ ?_
  |refine wk_nil ?_
  |refine wk_cons ?_)
 refine g_c rfl (implPlay_p (m:=M) (acts:=acts) (d:=d3) (room:=room) hf) (fun v As' hq=>?_)
 obtain⟨hs,hd,rfl,rfl,hh⟩:=hq
 repeat' (first
  |(refine k_L ?_;first|refine a_p rfl ?_|(refine k_st ?_;refine g_sw rfl rfl rfl rfl (Nat.le_of_ble_eq_true rfl) ?_)|(refine k_al ?_;refine a_al ?_)|(refine k_c ?_;first|refine a_cq rfl (fun m hm=>eqPlayed_t (x:=hs) (y:=ws) (d:=hd) (e:=wd) (has_p (Bs:=hs.body) hm) (has_p (Bs:=ws.body) hm) (has_p (Bs:=[slA 2 anv hd (playL room acts)]) hm) (has_p (Bs:=[slA 2 anv wd (playL room acts)]) hm) (hh.trans hw.symm)) ?_|refine a_cq rfl (fun m hm=>qt_e (heldPlayed_q (b:=playB room acts) (x:=gs) (y:=gn) (sd:=gd) (n:=(playL room acts).length) (k:=1) (by omega) (by omega) (by rw[hg];omega) hgn (has_p (Bs:=gn.body) hm) (has_p (Bs:=[slA 2 anv gd (mkA 1 (playL room acts).length)]) hm)) (by rw[hg])) ?_))
  |refine a_n ?_
  |(refine k_V ?_;first|refine v_rv ?_|refine v_seq ?_|refine v_reg ?_|refine v_skip ?_|refine v_cf rfl ?_|(refine v_cd rfl (fun hb=>?_) (fun hb=>?_)<;>try(exfalso;omega))|(refine v_cn rfl (fun hb=>?_) (fun hb=>?_)<;>try(exfalso;omega)))
  |refine sk_zero ?_
  |refine sk_succ ?_
  |refine wk_nil ?_
  |refine wk_cons ?_)
 exact fa_q (by simp) (fun _ _=>rfl) rfl
end Go.Proofs.YtpleoapljeffiaaGreatDoor.E
namespace Go.Proofs.YtpleoapljeffiaaGreatDoor.E
open Go Go.ChangeShapes Go.WideShapes Go.ChangeAt Go.RowKit
instance:Inhabited Act:=⟨⟨0,0,0,0,0⟩⟩
theorem und_act:Tryz.prog.underlying 45=some (.struct (fsOf Tryz.prog 45)):=by kernel_rfl
theorem fs_act:(fsOf Tryz.prog 45).toList.map (fun f=>(f.type,f.offset))=[(3,0),(3,1),(3,2),(3,3),(2,4)]:=by kernel_rfl
theorem cof_act:Tryz.prog.cellsOf 45=5:=by kernel_rfl
theorem und_acts:Tryz.prog.underlying 22=some (.slice 45):=by kernel_rfl
section
variable {H:Type} {enc:TypeId×Value→H} {W:World} {spare:Nat→Bool} {held:Bool}
theorem open_act:∀n cs y,DataW.trod enc Tryz.prog W 0 spare held n 45 cs=some y→∃x:Act,cs=av x∧True:=by
 intro n cs y h
 obtain⟨hl,m,hf⟩:=open_struct und_act fs_act h
 rw[cof_act]at hl
 obtain⟨_,h0⟩:=hf 0 _ _ rfl
 obtain⟨_,h1⟩:=hf 1 _ _ rfl
 obtain⟨_,h2⟩:=hf 2 _ _ rfl
 obtain⟨_,h3⟩:=hf 3 _ _ rfl
 obtain⟨_,h4⟩:=hf 4 _ _ rfl
 obtain⟨a,ha⟩:=open_i h0
 obtain⟨b,hb⟩:=open_i h1
 obtain⟨c,hc⟩:=open_i h2
 obtain⟨d,hd⟩:=open_i h3
 obtain⟨e,he⟩:=open_i64 h4
 refine⟨⟨a,b,c,d,e⟩,?_,trivial⟩
 match cs,hl with
 |[v0,v1,v2,v3,v4],_=>
  simp at ha hb hc hd he
  subst ha;subst hb;subst hc;subst hd;subst he;rfl
end
theorem door_metExactPlay(os:Os)(args:Array Value):laidMetH Tryz.prog Rows.fnExactPlayRow.laid ((World.doorLaid Tryz.prog 38 os).forCall (fun _ _=>0) ⟨#[],args,[]⟩).memory:=
 laidMetH_of_parts3 (fuel:=8) (laidMet_of_run' 8 (by kernel_rfl) (by kernel_rfl)) (by kernel_rfl) (by kernel_rfl)
theorem liftedExactPlay(os:Os)(started:os.Started)(H:Type)(enc:TypeId×Value→H):
 ReturnsInHanded {} Tryz.checked os 3 .any (fun w args=>(Rows.fnExactPlaySpec.pre enc Tryz.prog Tryz.f3 [] false w args∧laidMetH Tryz.prog Rows.fnExactPlayRow.laid w)∧sizedMet enc Tryz.prog Tryz.f3 (OpenSpec.ofChange Rows.fnExactPlaySpec) false w args)
  (Rows.fnExactPlaySpec.post enc Tryz.prog Tryz.f3 false true false false):=by
 refine returnsInHanded_of_change_and (C:=Tryz.checked) (X:=fun w _=>laidMetH Tryz.prog Rows.fnExactPlayRow.laid w) (fun _ _ _ hh h=>h.of_heap hh) ownknob started (by kernel_rfl) Tryz.func3
  (ChangeSpec.witness_shaped (enc:=enc) (C:=Tryz.checked) (os:=os) (X:=fun w _=>laidMetH Tryz.prog Rows.fnExactPlayRow.laid w) false (World.doorLaid Tryz.prog 38 os) #[.int .i64 0,.slice none 0 0] 8 rfl (World.shaped_of_RefB (by kernel_rfl) (by kernel_rfl)) (by kernel_rfl) (by kernel_rfl) (by kernel_rfl) (door_metExactPlay os _)) ?_
 intro W base args ds gs before hval0 hW _ _ hL _
 have hval:∀(j:Nat) t v,Tryz.f3.params[j]?=some t→args[j]?=some v→Value.okWide Tryz.prog W .any base t v:=hval0
 have hW':=hW
 obtain⟨p,q,hA0,hV,rfl,hfz,hnd⟩:=hW
 have hA:DataW.TrodAll enc Tryz.prog W 0 (fun _=>true) true [3,22] args.toList ds p:=hA0
 obtain⟨v0,v1,d0,d1,p0,p1,rfl,rfl,rfl,h0,h1⟩:=trodAll_two hA
 obtain⟨a0,rfl,rfl,rfl,wa0⟩:=open_int und_int (hval 0 3 v0 rfl rfl) h0
 obtain⟨sa,n,cap,rfl⟩:=okWide_slice und_acts (hval 1 22 v1 rfl rfl)
 clear hA0 hval0
 have h1k:=h1
 obtain⟨fuel,h1'⟩:=h1
 obtain⟨v,xs,e,hsl,_⟩:=open_sl (f:=av) (Q:=fun _=>True) (fun _=>rfl) (by omega) und_acts cof_act open_act h1'
 have e:v=.slice sa n cap:=by simp[Value.cells]at e;exact e.symm
 subst e
 have hlt1:∀x∈p1,x.block<W.heap.size:=fun x hx=>by simpa using hW'.lt x (by simp[hx])
 have hq:Fn Tryz.prog 3 [.int .i64 a0,.slice sa n cap] (memOf W) (fun v M'=>v=.bool true∧(memOf W).le M'):=(fnExactPlay_q hsl (frm_of_met rfl hL)).mono fun v M' ⟨h1,h2⟩=>⟨h1,by rw[h2];exact Mem.le_refl _⟩
 refine(row_of hq).mono fun e W' ⟨he,bel⟩=>?_
 subst he
 have hT1:=Below.trod laid (by kernel_rfl) (of_decide_eq_true (by kernel_rfl)) h1k bel hlt1
 obtain ⟨_, _, _, _, g1, _, rfl, _⟩ := trodVars_one (show DataW.TrodVars enc Tryz.prog W (fun _ => true) ["loop.example/spool/impl.forms"] gs q from hV)
 have hV2:=Below.trodVars laid bel (by kernel_rfl) hV
 exact⟨_,rfl,_,_,_,_,_,_,hW',trodAll_mk1 (shut_bool und_bool _),trodAll_cons_mk (shut_int und_int wa0) (trodAll_mk1 hT1),hV2,bel.frame _,fun h=>by cases h⟩
end Go.Proofs.YtpleoapljeffiaaGreatDoor.E
namespace Go.Proofs.YtpleoapljeffiaaGreatDoor
open Go Go.ChangeShapes Go.WideShapes Go.ChangeAt Go.RowKit
theorem fnExactPlay_row:Rows.FnExactPlaySaid:=
 OpenClaim.holds_of_wide 3 Tryz.f3 rfl rfl rfl rfl rfl rfl rfl ⟨rfl,rfl,rfl,rfl,rfl⟩ rfl rfl rfl rfl rfl (by kernel_rfl) Tryz.func3 jfPlay
  (of_decide_eq_true (by kernel_rfl)) (by unfold Func.isWrapper;first|(rw[if_pos (by decide+kernel)];kernel_rfl)|(rw[if_neg (by decide+kernel)];exact⟨rfl,rfl⟩))
  (fun os started H enc _=>E.liftedExactPlay os started H enc)
theorem fnExactPlay_holds:Rows.FnExactPlayCardSaid:=
 Claim7.holds_tied_plain_at .later [] [.data] true Rows.fnExactPlayCard.stood.harness false
  fnExactPlay_row (fun _ h=>by cases h) (by kernel_rfl) (fun _ h=>by cases h) fnExactPlay_row_tie rfl ⟨rfl,rfl⟩ (by kernel_rfl) rfl
  (fun f fn hf hfn=>by
    obtain rfl : f = 3 := Option.some.inj ((show Tryz.prog.funcNamed "loop.example/spool/laws.FnExactPlay" = some 3 by kernel_rfl).symm.trans hf) |>.symm
    obtain rfl:fn=Tryz.f3:=(Option.some.inj (Tryz.func3.symm.trans hfn)).symm
    exact⟨by kernel_rfl,fun j t ht=>by
     have hm:t∈[3,22]:=by
      have:=Array.mem_of_getElem? ht
      rw[←Array.mem_toList_iff]at this
      exact this
     have hall:([3,22].all fun u=> !Tryz.prog.wantsStandIn u)=true:=by kernel_rfl
     exact(show Tryz.prog.wantsStandIn t=false by simpa using List.all_eq_true.1 hall t hm)⟩)
  (by kernel_rfl)
end Go.Proofs.YtpleoapljeffiaaGreatDoor
