/- A part of the proof. Conditions: none. -/
import Derived.Test.YtcjmodomfilagaaGreatKH15
set_option linter.unusedVariables false
set_option linter.unusedSimpArgs false
set_option maxHeartbeats 8000000
set_option maxRecDepth 100000
namespace Go.Proofs.YtcjmodomfilagaaGreat.E
open Go
open Classical
theorem finish_a{a:Nat}{x:HX}(h:Sound x.H):FnA Tryz.prog 51 [ptr a] (hp a x) (fun v As=>∃z:HX,v=.int .i64 (outN x.H)∧As=hp a z∧z.H=x.H.outH):=by
 obtain⟨ho,hN⟩:=outN_ok h
 refine fnA_of (fun h=>fn51 (by simp) h) ?_
 repeat' (first
  |(refine k_L ?_;refine a_p rfl ?_)
  |refine a_n ?_
  |(refine k_V ?_;first|refine v_seq ?_|refine v_reg ?_))
 refine v_blk ?_
 refine v_loop (fun q:Nat×HX=>[(0,.v (ptr a)),(3,.v (.int .i64 q.1))]) (fun q=>hp a q.2) (fun k q=>k=outN x.H-q.1∧q.1≤outN x.H∧q.2.H=iterU q.1 x.H) ⟨_,(0,x),⟨rfl,rfl,trivial⟩,Ent.refl _,rfl,Nat.zero_le _,rfl⟩ ?_
 rintro k ⟨j,z⟩ ⟨rfl,hj,hz⟩
 simp only at hj hz
 dsimp only
 have hs:Sound z.H:=by rw[hz];exact iterU_sound j h
 have hp:=out_phase h hj
 rw[←hz]at hp
 have hph:z.hdr.phase=z.H.phase:=rfl
 by_cases e:j=outN x.H
 ·have e0:=hp.2 e
  repeat' (first
   |(refine k_L ?_;first|refine a_p rfl ?_|(refine k_l ?_;refine g_l rfl ?_))
   |refine a_n ?_
   |(refine k_V ?_;first|refine v_seq ?_|refine v_reg ?_|refine v_ret ?_|refine v_exit ?_|(refine v_cn rfl (fun hb=>?_) (fun hb=>?_)<;>try(exfalso;omega))))
  refine fa_r (fun _ _=>rfl) (Pm.ent (fin z)) ⟨z,?_,rfl,?_⟩
  ·rw[e]
  ·rw[hz,e];rfl
 ·have e0:z.H.phase≠0:=fun h'=>e (hp.1 h')
  repeat' (first
   |(refine k_L ?_;first|(refine k_ad ?_;refine g_ad rfl rfl ?_)|refine a_p rfl ?_|(refine k_l ?_;refine g_l rfl ?_)|(refine g_c rfl (unit_a hs e0) (fun v As' hq=>?_);obtain⟨u,rfl,hu⟩:=hq))
   |refine a_n ?_
   |(refine k_V ?_;first|refine v_seq ?_|refine v_reg ?_|refine v_bs ?_|refine v_skip ?_|(refine v_cn rfl (fun hb=>?_) (fun hb=>?_)<;>try(exfalso;omega)))
   |refine s_n ?_
   |refine b_n ?_)
  refine⟨outN x.H-(j+1),(j+1,u),by omega,⟨rfl,rfl,trivial⟩,Pm.ent pmt,rfl,by show j+1≤outN x.H;omega,?_⟩
  show u.H=iterU (j+1) x.H
  rw[iterU_succ,←hz];exact hu
theorem l3out_a{a:Nat}{x:HX}(h:Sound x.H):FnA Tryz.prog 52 [ptr a] (hp a x) (fun v As=>∃z:HX,v=.int .i64 (outN x.H)∧As=hp a z∧z.H=x.H.outH):=by
 obtain⟨ho,hN⟩:=outN_ok h
 refine fnA_of (fun h=>fn52 (by simp) h) ?_
 repeat' (first
  |(refine k_L ?_;refine a_p rfl ?_)
  |refine a_n ?_
  |(refine k_V ?_;first|refine v_seq ?_|refine v_reg ?_))
 refine v_blk ?_
 refine v_loop (fun q:Nat×HX=>[(0,.v (ptr a)),(3,.v (.int .i64 q.1))]) (fun q=>hp a q.2) (fun k q=>k=outN x.H-q.1∧q.1≤outN x.H∧q.2.H=iterU q.1 x.H) ⟨_,(0,x),⟨rfl,rfl,trivial⟩,Ent.refl _,rfl,Nat.zero_le _,rfl⟩ ?_
 rintro k ⟨j,z⟩ ⟨rfl,hj,hz⟩
 simp only at hj hz
 dsimp only
 have hs:Sound z.H:=by rw[hz];exact iterU_sound j h
 have hp:=out_phase h hj
 rw[←hz]at hp
 have hph:z.hdr.phase=z.H.phase:=rfl
 by_cases e:j=outN x.H
 ·have e0:=hp.2 e
  repeat' (first
   |(refine k_L ?_;first|refine a_p rfl ?_|(refine k_l ?_;refine g_l rfl ?_))
   |refine a_n ?_
   |(refine k_V ?_;first|refine v_seq ?_|refine v_reg ?_|refine v_ret ?_|refine v_exit ?_|(refine v_cn rfl (fun hb=>?_) (fun hb=>?_)<;>try(exfalso;omega))))
  refine fa_r (fun _ _=>rfl) (Pm.ent (fin z)) ⟨z,?_,rfl,?_⟩
  ·rw[e]
  ·rw[hz,e];rfl
 ·have e0:z.H.phase≠0:=fun h'=>e (hp.1 h')
  repeat' (first
   |(refine k_L ?_;first|(refine k_ad ?_;refine g_ad rfl rfl ?_)|refine a_p rfl ?_|(refine k_l ?_;refine g_l rfl ?_)|(refine g_c rfl (l3unit_a hs e0) (fun v As' hq=>?_);obtain⟨u,rfl,hu⟩:=hq))
   |refine a_n ?_
   |(refine k_V ?_;first|refine v_seq ?_|refine v_reg ?_|refine v_bs ?_|refine v_skip ?_|(refine v_cn rfl (fun hb=>?_) (fun hb=>?_)<;>try(exfalso;omega)))
   |refine s_n ?_
   |refine b_n ?_)
  refine⟨outN x.H-(j+1),(j+1,u),by omega,⟨rfl,rfl,trivial⟩,Pm.ent pmt,rfl,by show j+1≤outN x.H;omega,?_⟩
  show u.H=iterU (j+1) x.H
  rw[iterU_succ,←hz];exact hu
theorem begin_H{x:HX}:x.begin.H=x.H.beginH:=by
 unfold HX.begin Heap.beginH
 by_cases e:x.phase=0
 ·rw[if_pos e,if_pos (show x.H.phase=0 from e)];exact enter_H
 ·rw[if_neg e,if_neg (show ¬x.H.phase=0 from e)]
theorem l3round_a{a:Nat}{x:HX}(h:Sound x.H):FnA Tryz.prog 55 [ptr a] (hp a x) (fun v As=>∃z:HX,As=hp a z∧z.H=x.H.roundH):=by
 obtain⟨o1,o2⟩:=outH_ok h
 refine fnA_of (fun h=>fn55 (by simp) h) ?_
 repeat' (first
  |(refine k_L ?_;refine a_p rfl ?_)
  |refine a_n ?_
  |(refine k_V ?_;first|refine v_seq ?_|refine v_reg ?_))
 refine g_c rfl (l3out_a h) (fun v As' hq=>?_)
 obtain⟨z,rfl,rfl,hz⟩:=hq
 have zb:(z.ph 1 0).H=x.H.outH.enterH 1:=by rw[←hz];exact ph_H rfl
 repeat' (first
  |(refine k_L ?_;first|refine a_p rfl ?_|(refine g_c rfl (l3begin_a (x:=z)) (fun v As' hq=>?_);subst hq))
  |refine a_n ?_
  |(refine k_V ?_;first|refine v_seq ?_|refine v_reg ?_))
 refine g_c rfl (l3out_a (x:=z.ph 1 0) (by rw[zb];exact begin_sound o1 o2)) (fun v As' hq=>?_)
 obtain⟨u,rfl,rfl,hu⟩:=hq
 repeat' (first
  |(refine k_L ?_;first|(refine k_ad ?_;refine g_ad rfl rfl ?_)|(refine k_su ?_;refine g_su rfl rfl ?_)|(refine k_ml ?_;refine g_ml rfl rfl ?_)|refine a_p rfl ?_|(refine k_g ?_;first|refine a_gy rfl rfl ?_|refine a_gn rfl rfl ?_|refine a_gu rfl ?_|(refine a_gd rfl (fun hb=>?_) (fun hb=>?_)<;>try(exfalso;omega))|(refine a_ge rfl (fun hb=>?_) (fun hb=>?_)<;>try(exfalso;omega))|(refine a_gne rfl (fun hb=>?_) (fun hb=>?_)<;>try(exfalso;omega))|(refine a_gnd rfl (fun hb=>?_) (fun hb=>?_)<;>try(exfalso;omega)))|(refine k_l ?_;refine g_l rfl ?_)|(refine k_i ?_;refine g_i rfl rfl ?_)|(refine k_ls ?_;refine g_ls rfl ?_)|(refine k_st ?_;first|refine g_st rfl rfl rfl rfl ?_|refine g_sw rfl rfl rfl rfl (Nat.le_of_ble_eq_true rfl) ?_)|(refine k_al ?_;refine a_al ?_)|(refine k_bx ?_;refine a_bx rfl rfl ?_)|(refine k_bl ?_;refine a_bl rfl ?_)|(refine k_p ?_;first|(refine a_pd rfl (fun hb=>?_) (fun hb=>?_)<;>try(exfalso;omega))|(refine a_pe rfl (fun hb=>?_) (fun hb=>?_)<;>try(exfalso;omega))|(refine a_pne rfl (fun hb=>?_) (fun hb=>?_)<;>try(exfalso;omega))|(refine a_pnd rfl (fun hb=>?_) (fun hb=>?_)<;>try(exfalso;omega))))
  |refine a_n ?_
  |(refine k_V ?_;first|refine v_rv ?_|refine v_seq ?_|refine v_reg ?_|refine v_dreg ?_|refine v_zreg ?_|refine v_bs ?_|refine v_br ?_|refine v_bd ?_|refine v_bc ?_|refine v_bk ?_|refine v_bb ?_|refine v_ret ?_|refine v_exit ?_|refine v_skip ?_|refine v_ct rfl ?_|refine v_cf rfl ?_|(refine v_cd rfl (fun hb=>?_) (fun hb=>?_)<;>try(exfalso;omega))|(refine v_ce rfl (fun hb=>?_) (fun hb=>?_)<;>try(exfalso;omega))|(refine v_cn rfl (fun hb=>?_) (fun hb=>?_)<;>try(exfalso;omega))|(refine v_cnd rfl (fun hb=>?_) (fun hb=>?_)<;>try(exfalso;omega)))
  |refine s_n ?_
  |refine s_r ?_
  |refine s_e ?_
  |refine b_n ?_
  |refine b_r ?_
  |refine b_e ?_
  |refine b_o rfl ?_
  |refine r_rt ?_
  |refine r_bk rfl ?_
  |refine r_ex rfl rfl ?_
  |refine sk_zero ?_
  |refine sk_succ ?_
  |refine wk_nil ?_
  |refine wk_cons ?_)
 exact fa_n (fun _ _=>rfl) (Pm.ent (fin u)) ⟨_,rfl,by rw[hu,zb];rfl⟩
theorem step_a{a:Nat}{x:HX}{n:Int}(h:Sound x.H)(hn:0≤n∧n≤1000000000000):FnA Tryz.prog 49 [ptr a,.int .i64 n] (hp a x) (fun v As=>∃z:HX,v=.int .i64 (min n.toNat (outN x.H):Nat)∧As=hp a z∧z.H=iterU (min n.toNat (outN x.H)) x.H):=by
 obtain⟨ho,hN⟩:=outN_ok h
 refine fnA_of (fun h=>fn49 (by simp) h) ?_
 repeat' (first
  |(refine k_L ?_;refine a_p rfl ?_)
  |refine a_n ?_
  |(refine k_V ?_;first|refine v_seq ?_|refine v_reg ?_))
 generalize hm:min n.toNat (outN x.H)=mx
 have hm1:mx≤outN x.H:=by omega
 have hm2:(mx:Int)≤n:=by omega
 refine v_mono (Q:=seqA (Jx (fun z:HX=>[(0,.v (ptr a)),(5,.v (.int .i64 mx))]) (fun z=>hp a z) (fun z=>z.H=iterU mx x.H)) (fun _ _ _=>False)) ?_ ?_
 ·refine v_blk ?_
  refine v_loop (fun q:Nat×HX=>[(0,.v (ptr a)),(1,.v (.int .i64 n)),(5,.v (.int .i64 q.1))]) (fun q=>hp a q.2) (fun k q=>k=mx-q.1∧q.1≤mx∧q.2.H=iterU q.1 x.H) ⟨_,(0,x),⟨rfl,rfl,rfl,trivial⟩,Ent.refl _,rfl,Nat.zero_le _,rfl⟩ ?_
  rintro k ⟨j,z⟩ ⟨rfl,hj,hz⟩
  simp only at hj hz
  dsimp only
  have hs:Sound z.H:=by rw[hz];exact iterU_sound j h
  have hp:=out_phase h (j:=j) (by omega)
  rw[←hz]at hp
  have hph:z.hdr.phase=z.H.phase:=rfl
  by_cases e:j=mx
  ·subst e
   by_cases e1:(j:Int)<n
   ·have e0:z.H.phase=0:=hp.2 (by omega)
    repeat' (first
     |(refine k_L ?_;first|refine a_p rfl ?_|(refine k_g ?_;first|refine a_gy rfl rfl ?_|(refine a_gd rfl (fun hb=>?_) (fun hb=>?_)<;>try(exfalso;omega)))|(refine k_l ?_;refine g_l rfl ?_))
     |refine a_n ?_
     |(refine k_V ?_;first|refine v_seq ?_|refine v_reg ?_|refine v_exit ?_|(refine v_cn rfl (fun hb=>?_) (fun hb=>?_)<;>try(exfalso;omega)))
     |refine s_n ?_
     |refine s_e ?_
     |refine b_e ?_)
    exact j_i z hz
   ·repeat' (first
     |(refine k_L ?_;first|refine a_p rfl ?_|(refine k_g ?_;first|refine a_gn rfl rfl ?_|(refine a_gd rfl (fun hb=>?_) (fun hb=>?_)<;>try(exfalso;omega))))
     |refine a_n ?_
     |(refine k_V ?_;first|refine v_seq ?_|refine v_reg ?_|refine v_exit ?_|refine v_cf rfl ?_)
     |refine s_n ?_
     |refine s_e ?_
     |refine b_e ?_)
    exact j_i z hz
  ·have e0:z.H.phase≠0:=fun h'=>by have:=hp.1 h';omega
   repeat' (first
    |(refine k_L ?_;first|(refine k_ad ?_;refine g_ad rfl rfl ?_)|refine a_p rfl ?_|(refine k_g ?_;first|refine a_gy rfl rfl ?_|(refine a_gd rfl (fun hb=>?_) (fun hb=>?_)<;>try(exfalso;omega)))|(refine k_l ?_;refine g_l rfl ?_)|(refine g_c rfl (unit_a hs e0) (fun v As' hq=>?_);obtain⟨u,rfl,hu⟩:=hq))
    |refine a_n ?_
    |(refine k_V ?_;first|refine v_seq ?_|refine v_reg ?_|refine v_bs ?_|refine v_skip ?_|(refine v_cn rfl (fun hb=>?_) (fun hb=>?_)<;>try(exfalso;omega)))
    |refine s_n ?_
    |refine b_n ?_)
   refine⟨mx-(j+1),(j+1,u),by omega,⟨rfl,rfl,rfl,trivial⟩,Pm.ent pmt,rfl,by show j+1≤mx;omega,?_⟩
   show u.H=iterU (j+1) x.H
   rw[iterU_succ,←hz];exact hu
 rintro y S' As' hq
 cases y with
 |ret=>exact hq.elim
 |ext i=>exact hq.elim
 |nrm=>
 obtain⟨z,hl',he',hz⟩:=hq
 refine v_weak _ hl' (VA.ent he' ?_)
 repeat' (first
  |(refine k_L ?_;refine a_p rfl ?_)
  |refine a_n ?_
  |(refine k_V ?_;first|refine v_seq ?_|refine v_reg ?_|refine v_ret ?_))
 exact fa_r (fun _ _=>rfl) (Pm.ent (fin z)) ⟨z,rfl,rfl,hz⟩
theorem l3step_a{a:Nat}{x:HX}{n:Int}(h:Sound x.H)(hn:0≤n∧n≤1000000000000):FnA Tryz.prog 50 [ptr a,.int .i64 n] (hp a x) (fun v As=>∃z:HX,v=.int .i64 (stepN x.H n:Nat)∧As=hp a z∧z.H=x.H.stepH n):=by
 refine fnA_of (fun h=>fn50 (by simp) h) ?_
 unfold stepN Heap.stepH
 by_cases hn0:n=0
 ·rw[if_pos hn0,if_pos hn0]
  repeat' (first
   |(refine k_L ?_;refine a_p rfl ?_)
   |refine a_n ?_
   |(refine k_V ?_;first|refine v_rv ?_|refine v_seq ?_|refine v_reg ?_|(refine v_cd rfl (fun hb=>?_) (fun hb=>?_)<;>try(exfalso;omega)))
   |refine s_r ?_)
  exact fa_r (fun _ _=>rfl) (Pm.ent (fin x)) ⟨x,rfl,rfl,rfl⟩
 ·rw[if_neg hn0,if_neg hn0]
  unfold stepN
  rw[if_neg hn0]
  have hb:=beginH_ok h
  obtain⟨ho,hN⟩:=outN_ok hb
  have hxp:x.hdr.phase=x.H.phase:=rfl
  refine v_seq ?_
  repeat' (first
   |(refine k_L ?_;refine a_p rfl ?_)
   |refine a_n ?_
   |(refine k_V ?_;refine v_reg ?_)
   |refine s_n ?_)
  refine g_cut (fun _:Unit=>[(0,.v (ptr a)),(1,.v (.int .i64 n))]) (fun _=>hp a x) (fun _=>True) ?_ (fun _ _=>?_)
  ·repeat' (first
    |(refine k_L ?_;refine a_p rfl ?_)
    |refine a_n ?_
    |(refine k_V ?_;first|refine v_seq ?_|refine v_reg ?_|refine v_skip ?_|(refine v_cd rfl (fun hb=>?_) (fun hb=>?_)<;>try(exfalso;omega)))
    |refine s_n ?_)
   exact j_i () trivial
  refine g_cut (fun z:HX=>[(0,.v (ptr a)),(1,.v (.int .i64 n))]) (fun z=>hp a z) (fun z=>z.H=x.H.beginH) ?_ (fun w hw=>?_)
  ·unfold Heap.beginH
   repeat' (first
    |(refine k_L ?_;first|refine a_p rfl ?_|(refine k_l ?_;refine g_l rfl ?_)|(refine g_c rfl (l3begin_a (x:=x)) (fun v As' hq=>?_);subst hq))
    |refine a_n ?_
    |(refine k_V ?_;first|refine v_seq ?_|refine v_reg ?_|refine v_skip ?_|(refine v_cd rfl (fun hb=>?_) (fun hb=>?_)<;>try(exfalso;omega)))
    |refine s_n ?_)
   ·exact j_i (x.ph 1 0) (by rw[if_pos (show x.H.phase=0 by omega)];exact ph_H rfl)
   ·exact j_i x (by rw[if_neg (show ¬x.H.phase=0 by omega)])
  rw[←hw]
  rw[←hw]at hb ho hN
  repeat' (first
   |(refine k_L ?_;refine a_p rfl ?_)
   |refine a_n ?_
   |(refine k_V ?_;first|refine v_seq ?_|refine v_reg ?_))
  generalize hm:min n.toNat (outN w.H)=mx
  have hm1:mx≤outN w.H:=by omega
  have hm2:(mx:Int)≤n:=by omega
  refine v_mono (Q:=seqA (Jx (fun z:HX=>[(0,.v (ptr a)),(5,.v (.int .i64 mx))]) (fun z=>hp a z) (fun z=>z.H=iterU mx w.H)) (fun _ _ _=>False)) ?_ ?_
  ·refine v_blk ?_
   refine v_loop (fun q:Nat×HX=>[(0,.v (ptr a)),(1,.v (.int .i64 n)),(5,.v (.int .i64 q.1))]) (fun q=>hp a q.2) (fun k q=>k=mx-q.1∧q.1≤mx∧q.2.H=iterU q.1 w.H) ⟨_,(0,w),⟨rfl,rfl,rfl,trivial⟩,Ent.refl _,rfl,Nat.zero_le _,rfl⟩ ?_
   rintro k ⟨j,z⟩ ⟨rfl,hj,hz⟩
   simp only at hj hz
   dsimp only
   have hs:Sound z.H:=by rw[hz];exact iterU_sound j hb
   have hp:=out_phase hb (j:=j) (by omega)
   rw[←hz]at hp
   have hph:z.hdr.phase=z.H.phase:=rfl
   by_cases e:j=mx
   ·subst e
    by_cases e1:(j:Int)<n
    ·have e0:z.H.phase=0:=hp.2 (by omega)
     repeat' (first
      |(refine k_L ?_;first|refine a_p rfl ?_|(refine k_g ?_;first|refine a_gy rfl rfl ?_|(refine a_gd rfl (fun hb=>?_) (fun hb=>?_)<;>try(exfalso;omega)))|(refine k_l ?_;refine g_l rfl ?_))
      |refine a_n ?_
      |(refine k_V ?_;first|refine v_seq ?_|refine v_reg ?_|refine v_exit ?_|(refine v_cn rfl (fun hb=>?_) (fun hb=>?_)<;>try(exfalso;omega)))
      |refine s_n ?_
      |refine s_e ?_
      |refine b_e ?_)
     exact j_i z hz
    ·repeat' (first
      |(refine k_L ?_;first|refine a_p rfl ?_|(refine k_g ?_;first|refine a_gn rfl rfl ?_|(refine a_gd rfl (fun hb=>?_) (fun hb=>?_)<;>try(exfalso;omega))))
      |refine a_n ?_
      |(refine k_V ?_;first|refine v_seq ?_|refine v_reg ?_|refine v_exit ?_|refine v_cf rfl ?_)
      |refine s_n ?_
      |refine s_e ?_
      |refine b_e ?_)
     exact j_i z hz
   ·have e0:z.H.phase≠0:=fun h'=>by have:=hp.1 h';omega
    repeat' (first
     |(refine k_L ?_;first|(refine k_ad ?_;refine g_ad rfl rfl ?_)|refine a_p rfl ?_|(refine k_g ?_;first|refine a_gy rfl rfl ?_|(refine a_gd rfl (fun hb=>?_) (fun hb=>?_)<;>try(exfalso;omega)))|(refine k_l ?_;refine g_l rfl ?_)|(refine g_c rfl (l3unit_a hs e0) (fun v As' hq=>?_);obtain⟨u,rfl,hu⟩:=hq))
     |refine a_n ?_
     |(refine k_V ?_;first|refine v_seq ?_|refine v_reg ?_|refine v_bs ?_|refine v_skip ?_|(refine v_cn rfl (fun hb=>?_) (fun hb=>?_)<;>try(exfalso;omega)))
     |refine s_n ?_
     |refine b_n ?_)
    refine⟨mx-(j+1),(j+1,u),by omega,⟨rfl,rfl,rfl,trivial⟩,Pm.ent pmt,rfl,by show j+1≤mx;omega,?_⟩
    show u.H=iterU (j+1) w.H
    rw[iterU_succ,←hz];exact hu
  rintro y S' As' hq
  cases y with
  |ret=>exact hq.elim
  |ext i=>exact hq.elim
  |nrm=>
  obtain⟨z,hl',he',hz⟩:=hq
  refine v_weak _ hl' (VA.ent he' ?_)
  repeat' (first
   |(refine k_L ?_;refine a_p rfl ?_)
   |refine a_n ?_
   |(refine k_V ?_;first|refine v_seq ?_|refine v_reg ?_|refine v_ret ?_))
  exact fa_r (fun _ _=>rfl) (Pm.ent (fin z)) ⟨z,rfl,rfl,hz⟩
theorem used_b{z:HX}(h:Sound z.H):0≤z.hdr.used∧z.hdr.used≤4000:=by
 have h1:=h.r1.room
 have h2:=h.r3
 have h3:=unitsN_nn z.H.cells
 have e1:z.hdr.used=z.H.used:=rfl
 unfold R3 at h2
 omega
def HX.frc(x:HX)(n:Int):HX:={x with forced:=n}
theorem l5room_a{a:Nat}{x:HX}{u:Int}(h:Sound x.H)(hu:0≤u∧u≤201):FnA Tryz.prog 142 [ptr a,.int .i64 u] (hp a x) (fun v As=>∃z:HX,v=.bool (decide ((x.H.fitsH u).used+u≤(x.H.fitsH u).room))∧As=hp a z∧z.H=x.H.fitsH u):=by
 refine fnA_of (fun h=>fn142 (by simp) h) ?_
 have e1:x.hdr.used=x.H.used:=rfl
 have e2:x.hdr.room=x.H.room:=rfl
 have e3:x.hdr.forced=x.H.forced:=rfl
 have h1:=h.r1.room
 have h2:=h.r3.2
 have h3:=h.r1.forced
 have h4:0≤x.H.used:=by have:=h.r3.1;have:=unitsN_nn x.H.cells;omega
 by_cases hf:x.H.used+u≤x.H.room
 ·have e:x.H.fitsH u=x.H:=by unfold Heap.fitsH;rw[if_pos hf]
  rw[e]
  repeat' (first
   |(refine k_L ?_;first|(refine k_ad ?_;refine g_ad rfl rfl ?_)|refine a_p rfl ?_|(refine k_l ?_;refine g_l rfl ?_))
   |refine a_n ?_
   |(refine k_V ?_;first|refine v_rv ?_|refine v_seq ?_|refine v_reg ?_|refine v_dreg ?_|(refine v_cd rfl (fun hb=>?_) (fun hb=>?_)<;>try(exfalso;omega)))
   |refine s_r ?_)
  exact fa_r (fun _ _=>rfl) (Pm.ent pmt) ⟨x,by simp[hf],rfl,rfl⟩
 ·have fr:∀n:Int,(x.frc n).H={x.H with forced:=n}:=fun n=>rfl
  have end_:∀(z:HX) (F:Heap),z.H=F→(z.hdr.used+u≤z.hdr.room↔F.used+u≤F.room):=fun z F e=>by rw[←e];exact Iff.rfl
  have e:x.H.fitsH u=(x.frc (if x.H.forced<1000000000 then x.H.forced+1 else x.H.forced)).H.roundH:=by unfold Heap.fitsH;rw[if_neg hf];rfl
  rw[e]
  by_cases hc:x.H.forced<1000000000
  ·rw[if_pos hc]
   repeat' (first
    |(refine k_L ?_;first|(refine k_ad ?_;refine g_ad rfl rfl ?_)|refine a_p rfl ?_|(refine k_l ?_;refine g_l rfl ?_)|(refine k_st ?_;refine g_st rfl rfl rfl rfl ?_)|(refine g_c rfl (l3round_a (x:=x.frc (x.H.forced+1)) (by rw[fr];exact forced_sound h (by omega))) (fun v As' hq=>?_);obtain⟨z,rfl,hz⟩:=hq;have zb:=used_b (z:=z) (by rw[hz];exact(roundH_ok (by rw[fr];exact forced_sound h (by omega))).1)))
    |refine a_n ?_
    |(refine k_V ?_;first|refine v_seq ?_|refine v_reg ?_|refine v_dreg ?_|refine v_ret ?_|refine v_skip ?_|(refine v_cd rfl (fun hb=>?_) (fun hb=>?_)<;>try(exfalso;omega))))
   all_goals exact fa_r (fun _ _=>rfl) (Pm.ent pmt) ⟨z,by congr 1;rw[Bool.eq_iff_iff];simp only[decide_eq_true_eq];exact end_ z _ hz,rfl,hz⟩
  ·rw[if_neg hc]
   repeat' (first
    |(refine k_L ?_;first|(refine k_ad ?_;refine g_ad rfl rfl ?_)|refine a_p rfl ?_|(refine k_l ?_;refine g_l rfl ?_)|(refine g_c rfl (l3round_a (x:=x) h) (fun v As' hq=>?_);obtain⟨z,rfl,hz⟩:=hq;have zb:=used_b (z:=z) (by rw[hz];exact(roundH_ok h).1)))
    |refine a_n ?_
    |(refine k_V ?_;first|refine v_seq ?_|refine v_reg ?_|refine v_dreg ?_|refine v_ret ?_|refine v_skip ?_|(refine v_cd rfl (fun hb=>?_) (fun hb=>?_)<;>try(exfalso;omega))))
   all_goals exact fa_r (fun _ _=>rfl) (Pm.ent pmt) ⟨z,by congr 1;rw[Bool.eq_iff_iff];simp only[decide_eq_true_eq];exact end_ z _ hz,rfl,hz⟩
theorem step_begun{H:Heap}(hp:H.phase=0){n:Int}(hn:n≠0):(H.enterH 1).stepH n=H.stepH n:=by
 have e1:(H.enterH 1).beginH=H.enterH 1:=by unfold Heap.beginH;rw[if_neg (by show ¬(1:Int)=0;omega)]
 have e2:H.beginH=H.enterH 1:=by unfold Heap.beginH;rw[if_pos hp]
 unfold Heap.stepH stepN
 simp only[if_neg hn,e1,e2]
theorem l5pace_a{a:Nat}{x:HX}{u:Int}(h:Sound x.H)(hu:0≤u∧u≤201):FnA Tryz.prog 143 [ptr a,.int .i64 u] (hp a x) (fun v As=>∃z:HX,As=hp a z∧z.H=x.H.paceH u):=by
 refine fnA_of (fun h=>fn143 (by simp) h) ?_
 have e1:x.hdr.used=x.H.used:=rfl
 have e2:x.hdr.per=x.H.per:=rfl
 have e3:x.hdr.start=x.H.start:=rfl
 have e4:x.hdr.phase=x.H.phase:=rfl
 have h1:=h.r1.per
 have hm:0≤x.H.per*u∧x.H.per*u≤64*201:=⟨Int.mul_nonneg h1.1 hu.1,Int.mul_le_mul h1.2 hu.2 hu.1 (by omega)⟩
 unfold Heap.paceH
 by_cases c1:x.H.per=0∨u=0
 ·rw[if_pos c1]
  repeat' (first
   |(refine k_L ?_;first|refine a_p rfl ?_|(refine k_g ?_;first|refine a_gy rfl rfl ?_|refine a_gn rfl rfl ?_|(refine a_gd rfl (fun hb=>?_) (fun hb=>?_)<;>try(exfalso;omega)))|(refine k_l ?_;refine g_l rfl ?_))
   |refine a_n ?_
   |(refine k_V ?_;first|refine v_seq ?_|refine v_reg ?_|refine v_ret ?_|refine v_ct rfl ?_|(refine v_cd rfl (fun hb=>?_) (fun hb=>?_)<;>try(exfalso;omega)))
   |refine s_r ?_)
  all_goals first
   |exact fa_n (fun _ _=>rfl) (Pm.ent pmt) ⟨x,rfl,rfl⟩
   |(exfalso;omega)
 ·rw[if_neg c1]
  have c2:¬x.H.per=0:=fun e=>c1 (.inl e)
  have c3:¬u=0:=fun e=>c1 (.inr e)
  have hn:x.H.per*u≠0:=fun e=>by
   rcases Int.mul_eq_zero.1 e with e|e
   ·exact c2 e
   ·exact c3 e
  by_cases c4:x.H.phase=0
  ·by_cases c5:x.H.used≤x.H.start
   ·rw[if_pos ⟨c4,c5⟩]
    repeat' (first
     |(refine k_L ?_;first|refine a_p rfl ?_|(refine k_g ?_;first|refine a_gy rfl rfl ?_|(refine a_gd rfl (fun hb=>?_) (fun hb=>?_)<;>try(exfalso;omega)))|(refine k_l ?_;refine g_l rfl ?_))
     |refine a_n ?_
     |(refine k_V ?_;first|refine v_seq ?_|refine v_reg ?_|refine v_dreg ?_|refine v_ret ?_|refine v_skip ?_|(refine v_cd rfl (fun hb=>?_) (fun hb=>?_)<;>try(exfalso;omega)))
     |refine s_r ?_)
    all_goals first
     |exact fa_n (fun _ _=>rfl) (Pm.ent pmt) ⟨x,rfl,rfl⟩
     |(exfalso;omega)
   ·rw[if_neg (fun e=>c5 e.2)]
    have pb:(x.ph 1 0).H=x.H.enterH 1:=ph_H rfl
    have hsb:Sound (x.ph 1 0).H:=by rw[pb];exact begin_sound h c4
    have hm2:0≤(x.ph 1 0).hdr.per*u∧(x.ph 1 0).hdr.per*u≤64*201:=hm
    repeat' (first
     |(refine k_L ?_;first|(refine k_ml ?_;refine g_ml rfl rfl ?_)|refine a_p rfl ?_|(refine k_g ?_;first|refine a_gy rfl rfl ?_|(refine a_gd rfl (fun hb=>?_) (fun hb=>?_)<;>try(exfalso;omega)))|(refine k_l ?_;refine g_l rfl ?_)|(refine g_c rfl (l3begin_a (x:=x)) (fun v As' hq=>?_);subst hq))
     |refine a_n ?_
     |(refine k_V ?_;first|refine v_seq ?_|refine v_reg ?_|refine v_dreg ?_|refine v_skip ?_|(refine v_cd rfl (fun hb=>?_) (fun hb=>?_)<;>try(exfalso;omega))))
    refine g_c rfl (l3step_a (x:=x.ph 1 0) (n:=(x.ph 1 0).hdr.per*u) hsb (by omega)) (fun v As' hq=>?_)
    obtain⟨z,rfl,rfl,hz⟩:=hq
    repeat' (first
     |(refine k_L ?_;first|(refine k_ad ?_;refine g_ad rfl rfl ?_)|(refine k_su ?_;refine g_su rfl rfl ?_)|(refine k_ml ?_;refine g_ml rfl rfl ?_)|refine a_p rfl ?_|(refine k_g ?_;first|refine a_gy rfl rfl ?_|refine a_gn rfl rfl ?_|refine a_gu rfl ?_|(refine a_gd rfl (fun hb=>?_) (fun hb=>?_)<;>try(exfalso;omega))|(refine a_ge rfl (fun hb=>?_) (fun hb=>?_)<;>try(exfalso;omega))|(refine a_gne rfl (fun hb=>?_) (fun hb=>?_)<;>try(exfalso;omega))|(refine a_gnd rfl (fun hb=>?_) (fun hb=>?_)<;>try(exfalso;omega)))|(refine k_l ?_;refine g_l rfl ?_)|(refine k_i ?_;refine g_i rfl rfl ?_)|(refine k_ls ?_;refine g_ls rfl ?_)|(refine k_st ?_;first|refine g_st rfl rfl rfl rfl ?_|refine g_sw rfl rfl rfl rfl (Nat.le_of_ble_eq_true rfl) ?_)|(refine k_al ?_;refine a_al ?_)|(refine k_bx ?_;refine a_bx rfl rfl ?_)|(refine k_bl ?_;refine a_bl rfl ?_)|(refine k_p ?_;first|(refine a_pd rfl (fun hb=>?_) (fun hb=>?_)<;>try(exfalso;omega))|(refine a_pe rfl (fun hb=>?_) (fun hb=>?_)<;>try(exfalso;omega))|(refine a_pne rfl (fun hb=>?_) (fun hb=>?_)<;>try(exfalso;omega))|(refine a_pnd rfl (fun hb=>?_) (fun hb=>?_)<;>try(exfalso;omega))))
     |refine a_n ?_
     |(refine k_V ?_;first|refine v_rv ?_|refine v_seq ?_|refine v_reg ?_|refine v_dreg ?_|refine v_zreg ?_|refine v_bs ?_|refine v_br ?_|refine v_bd ?_|refine v_bc ?_|refine v_bk ?_|refine v_bb ?_|refine v_ret ?_|refine v_exit ?_|refine v_skip ?_|refine v_ct rfl ?_|refine v_cf rfl ?_|(refine v_cd rfl (fun hb=>?_) (fun hb=>?_)<;>try(exfalso;omega))|(refine v_ce rfl (fun hb=>?_) (fun hb=>?_)<;>try(exfalso;omega))|(refine v_cn rfl (fun hb=>?_) (fun hb=>?_)<;>try(exfalso;omega))|(refine v_cnd rfl (fun hb=>?_) (fun hb=>?_)<;>try(exfalso;omega)))
     |refine s_n ?_
     |refine s_r ?_
     |refine s_e ?_
     |refine b_n ?_
     |refine b_r ?_
     |refine b_e ?_
     |refine b_o rfl ?_
     |refine r_rt ?_
     |refine r_bk rfl ?_
     |refine r_ex rfl rfl ?_
     |refine sk_zero ?_
     |refine sk_succ ?_
     |refine wk_nil ?_
     |refine wk_cons ?_)
    exact fa_n (fun _ _=>rfl) (Pm.ent pmt) ⟨z,rfl,by rw[hz,pb];exact step_begun c4 hn⟩
  ·rw[if_neg (fun e=>c4 e.1)]
   repeat' (first
    |(refine k_L ?_;first|(refine k_ml ?_;refine g_ml rfl rfl ?_)|refine a_p rfl ?_|(refine k_g ?_;first|refine a_gy rfl rfl ?_|(refine a_gd rfl (fun hb=>?_) (fun hb=>?_)<;>try(exfalso;omega)))|(refine k_l ?_;refine g_l rfl ?_)|(refine g_c rfl (l3step_a (x:=x) (n:=x.H.per*u) h (by omega)) (fun v As' hq=>?_);obtain⟨z,rfl,rfl,hz⟩:=hq))
    |refine a_n ?_
    |(refine k_V ?_;first|refine v_seq ?_|refine v_reg ?_|refine v_skip ?_|(refine v_cd rfl (fun hb=>?_) (fun hb=>?_)<;>try(exfalso;omega))))
   all_goals exact fa_n (fun _ _=>rfl) (Pm.ent pmt) ⟨z,rfl,hz⟩
theorem b_p{P:Program}{r:List I}{d:Option Nat}{post:St→List Asr→Prop}{S:St}{As:List Asr}{k:K}{sv:SV}(h:pe S k=some sv)(hp:LA P r post (put S d sv) As):LA P (⟨d,none,k⟩::r) post S As:=a_p h hp
theorem b_w{P:Program}{r:List I}{d:Option Nat}{post:St→List Asr→Prop}{S:St}{As:List Asr}{k:K}(w:Word)(h:pe S k=some (.v (wa w)))(hp:LA P r post (put S d (.v (wa w))) As):LA P (⟨d,none,k⟩::r) post S As:=a_p h hp
theorem l5due_a{a:Nat}{x:HX}{b:Act}(h:Sound x.H)(hr:0≤b.a∧b.a≤15):FnA Tryz.prog 139 [ptr a,.int .i64 b.a] (hp a x) (fun v As=>∃z:HX,v=an (doDue x.H b).code (doDue x.H b).num∧As=hp a z∧z.H=(doDue x.H b).heap):=by
 have hl:=x.len
 have hnc:x.hdr.nc=x.xs.length:=rfl
 have hnr:x.hdr.nr=x.regs.length:=rfl
 have h16:x.regs.length=16:=h.r1.regs
 obtain⟨k,hk⟩:=Int.eq_ofNat_of_zero_le hr.1
 refine fnA_of (fun h=>fn139 (by simp) h) ?_
 have hlt:=ndG_lt x.H x.H.cells.length
 unfold doDue
 rw[hk]
 obtain⟨w,gw⟩:∃w,x.regs[k]?=some w:=⟨_,List.getElem?_eq_getElem (by omega)⟩
 by_cases hd:ndG x.H x.H.cells.length<0
 ·rw[if_pos hd]
  repeat' (first
   |(refine k_L ?_;first|(refine k_l ?_;refine g_l rfl ?_)|(refine k_i ?_;refine g_i rfl rfl ?_)|(refine k_st ?_;first|refine g_st rfl rfl rfl rfl ?_|refine g_sw rfl rfl rfl rfl (Nat.le_of_ble_eq_true rfl) ?_)|(refine k_al ?_;refine a_al ?_)|(refine k_c ?_;refine a_cq rfl (fun m hm=>l5fine_q) ?_)|(refine a_cq rfl (fun m hm=>l4next_q (x:=x) (sep_has hm pmt)) ?_)|(refine b_w ⟨0,0,0⟩ rfl ?_)|(refine b_p rfl ?_))
   |refine a_n ?_
   |(refine k_V ?_;first|refine v_seq ?_|refine v_reg ?_|refine v_ret ?_|(refine v_cd rfl (fun hb=>?_) (fun hb=>?_)<;>try(exfalso;omega)))
   |refine s_r ?_
   |refine sk_zero ?_
   |refine sk_succ ?_
   |refine wk_nil ?_
   |refine wk_cons ?_)
  all_goals exact fa_r (fun _ _=>rfl) (Pm.ent (fin ({x with regs:=x.regs.set k ⟨0,0,0⟩}:HX) (h1:=by simp[HX.hdr]))) ⟨_,rfl,rfl,rfl⟩
 ·rw[if_neg hd]
  obtain⟨j,hj⟩:=Int.eq_ofNat_of_zero_le (show 0≤ndG x.H x.H.cells.length by omega)
  rw[hj]at hlt hd⊢
  obtain⟨y,gy,gc⟩:=HX.at (x:=x) (i:=j) (by omega)
  repeat' (first
   |(refine k_L ?_;first|(refine k_l ?_;refine g_l rfl ?_)|(refine k_i ?_;refine g_i rfl rfl ?_)|(refine k_st ?_;first|refine g_st rfl rfl rfl rfl ?_|refine g_sw rfl rfl rfl rfl (Nat.le_of_ble_eq_true rfl) ?_)|(refine k_al ?_;refine a_al ?_)|(refine k_c ?_;refine a_cq rfl (fun m hm=>l5fine_q) ?_)|(refine a_cq rfl (fun m hm=>qt_e (l4next_q (x:=x) (sep_has hm pmt)) (by rw[hj])) ?_)|(refine b_w ⟨2,0,j⟩ rfl ?_)|(refine b_p rfl ?_))
   |refine a_n ?_
   |(refine k_V ?_;first|refine v_seq ?_|refine v_reg ?_|refine v_ret ?_|refine v_skip ?_|refine v_cf rfl ?_)
   |refine sk_zero ?_
   |refine sk_succ ?_
   |refine wk_nil ?_
   |refine wk_cons ?_)
  have gk:=HX.gc gy
  refine fa_r (fun _ _=>rfl) (Pm.ent (fin ({x with regs:=x.regs.set k ⟨2,0,j⟩,xs:=x.xs.set j (y.s_last 3)}:HX) (h1:=by simp[HX.hdr]))) ⟨_,rfl,rfl,?_⟩
  unfold Heap.setR Heap.putL
  simp only[Int.toNat_natCast]
  rw[gk]
  unfold HX.H
  simp only[List.map_set]
  rfl
def Calm(H:Heap)(s0 s:List Bool×List Int)(n:Nat):Prop:=s=s0→∀(k j:Nat) c,k<n→s0.2[k]?=some (j:Int)→H.cells[j]?=some c→RuleC H s0.1 c
noncomputable def keyS(H:Heap)(c:Cell)(p:Pair)(q:List Bool×List Int):List Bool×List Int:=if KeyW c then mkW H q p.key else q
noncomputable def valS(H:Heap)(c:Cell)(p:Pair)(q:List Bool×List Int):List Bool×List Int:=if ValW c∧Hit H q.1 p.key then mkW H q p.val else q
theorem keyS_ok{H:Heap}{c:Cell}{p:Pair}{q:List Bool×List Int}(h:Mk H (Held H) q)(hk:KeyW c→∀j,H.tgt p.key=some j→j<H.cells.length∧Held H j):Mk H (Held H) (keyS H c p q)∧Grow q (keyS H c p q)∧Same q (keyS H c p q)∧(KeyW c→Hit H (keyS H c p q).1 p.key):=by
 unfold keyS
 by_cases hK:KeyW c
 ·rw[if_pos hK]
  obtain⟨a,b,d⟩:=mkW_ok h (hk hK)
  exact⟨a,b,mkW_same _ _ _,fun _=>d⟩
 ·rw[if_neg hK]
  exact⟨h,Grow.refl _,.inl rfl,fun h=>absurd h hK⟩
theorem valS_ok{H:Heap}{c:Cell}{p:Pair}{q:List Bool×List Int}(h:Mk H (Held H) q)(hk:ValW c→Hit H q.1 p.key→∀j,H.tgt p.val=some j→j<H.cells.length∧Held H j):Mk H (Held H) (valS H c p q)∧Grow q (valS H c p q)∧Same q (valS H c p q)∧(ValW c→Hit H q.1 p.key→Hit H (valS H c p q).1 p.val):=by
 unfold valS
 by_cases hK:ValW c∧Hit H q.1 p.key
 ·rw[if_pos hK]
  obtain⟨a,b,d⟩:=mkW_ok h (hk hK.1 hK.2)
  exact⟨a,b,mkW_same _ _ _,fun _ _=>d⟩
 ·rw[if_neg hK]
  exact⟨h,Grow.refl _,.inl rfl,fun h h'=>absurd ⟨h,h'⟩ hK⟩
theorem holds_next{H:Heap}{s q:List Bool×List Int}{c:Cell}{k:Nat}{p:Pair}(gp:c.pairs[k]?=some p)(hv1:Mk H (Held H) q)(hv2:Grow s q)(hv3:Same s q)
 (hv4:q=s→∀p,p∈c.pairs.take k→(KeyW c→Hit H s.1 p.key)∧(ValW c→Hit H s.1 p.key→Hit H s.1 p.val))
 (hk:KeyW c→∀j,H.tgt p.key=some j→j<H.cells.length∧Held H j) (hw:ValW c→Hit H (keyS H c p q).1 p.key→∀j,H.tgt p.val=some j→j<H.cells.length∧Held H j):
 Mk H (Held H) (valS H c p (keyS H c p q))∧Grow s (valS H c p (keyS H c p q))∧Same s (valS H c p (keyS H c p q))∧
 (valS H c p (keyS H c p q)=s→∀p',p'∈c.pairs.take (k+1)→(KeyW c→Hit H s.1 p'.key)∧(ValW c→Hit H s.1 p'.key→Hit H s.1 p'.val)):=by
 obtain⟨a1,a2,a3,a4⟩:=keyS_ok hv1 hk
 obtain⟨b1,b2,b3,b4⟩:=valS_ok a1 hw
 refine⟨b1,(hv2.trans a2).trans b2,(hv3.trans a3 a2.len hv2.len).trans b3 b2.len (hv2.trans a2).len,fun e p' hp'=>?_⟩
 have l1:=hv2.len
 have l2:=a2.len
 have l3:=b2.len
 have el:(valS H c p (keyS H c p q)).2.length=s.2.length:=by rw[e]
 have e1:q=s:=by
  rcases hv3 with h|h
  ·exact h
  ·omega
 have e2:keyS H c p q=s:=by
  rcases a3 with h|h
  ·rw[h];exact e1
  ·omega
 rw[List.take_add_one,List.mem_append]at hp'
 rcases hp' with hp'|hp'
 ·exact hv4 e1 p' hp'
 ·rw[gp]at hp'
  simp only[Option.toList_some,List.mem_singleton]at hp'
  subst hp'
  rw[e2]at a4 b4
  have e3:valS H c p' s=s:=by rw[←e2];rw[e];exact e2.symm
  rw[e3]at b4
  exact⟨a4,b4⟩
theorem l2holds_a{m:Mem}{a:Nat}{x:HX}(h:Has m (hp a x))(h1:R1 x.H)(h2:R2 x.H)(h4:R4 x.H):FnA Tryz.prog 77 [ptr a] [ro m] (fun v As=>∃(sd:D),v=.slice sd.a (heldL x.H).length sd.cap∧As=[slA 1 bv sd (heldL x.H),ro m]):=by
 have hb0:=h.lens
 have hl:=x.len
 have hc1:=h1.cells
 have hc2:=h1.room
 refine fnA_of (fun h=>fn77 (by simp) h) ?_
 repeat' (first
  |(refine k_L ?_;first|refine a_p rfl ?_|(refine k_l ?_;refine g_l rfl ?_)|(refine a_mk (f:=bv) (n:=(x.xs.length:Int)) (k:=(x.xs.length:Int)) false (fun _=>rfl) rfl rfl rfl (by omega) (by omega) (fun sd hsd=>?_)))
  |refine a_n ?_
  |(refine k_V ?_;first|refine v_seq ?_|refine v_reg ?_)
  |refine s_n ?_)
 have hm0:=mk0 x.H (Held x.H)
 rw[hl]at hm0
 refine VA.ent (ent_new (f:=iv) (size:=1)) ?_
 have hreg:∀w,w∈x.H.regs→∀j,x.H.tgt w=some j→j<x.H.cells.length∧Held x.H j:=fun w hw j hj=>⟨(tgt_lt h2 (h4.regs w hw).1 hj).1,.reg hw hj⟩
 refine g_range x.regs.length (fun q:PQ=>[(0,.v (ptr a)),(3,.v (.slice sd.a x.xs.length sd.cap)),(4,.v (.slice q.2.a q.1.2.length q.2.cap)),(24,.v (.slice x.rd.a x.regs.length x.rd.cap))]) (fun q=>sqA sd q.2 q.1++[ro m])
  (fun i q=>MkA x.H (Held x.H) q.1∧∀w,w∈x.H.regs.take i→Hit x.H q.1.1 w) (((List.replicate x.xs.length false,[]),⟨none,0⟩):PQ) ⟨hm0,by simp⟩ (fun i q hi hv=>?_) (fun q hv=>?_) (hent:=Pm.ent pmt)
 ·obtain⟨w,gw⟩:∃w,x.regs[i]?=some w:=⟨_,List.getElem?_eq_getElem hi⟩
  have hwm:w∈x.H.regs:=List.mem_of_getElem? gw
  obtain⟨n1,n2,n3⟩:=hv.1.next (hreg w hwm)
  repeat' (first
   |(refine k_L ?_;first|refine a_p rfl ?_|(refine k_i ?_;refine g_i rfl rfl ?_)|(refine k_ls ?_;refine g_ls rfl ?_)|(refine k_st ?_;refine g_sw rfl rfl rfl rfl (Nat.le_of_ble_eq_true rfl) ?_)|(refine k_al ?_;refine a_al ?_))
   |refine a_n ?_
   |(refine k_V ?_;first|refine v_seq ?_|refine v_reg ?_)
   |refine sk_zero ?_
   |refine sk_succ ?_
   |refine wk_nil ?_
   |refine wk_cons ?_)
  refine g_c rfl (l2mark_n (sd:=sd) (kd:=q.2) (w:=w) (s:=q.1) (S:=Held x.H) h h1 h2 (h4.regs w hwm).1 hv.1.ok (hv.1.ok.len.trans hl)) (fun v As' hq=>?_)
  obtain⟨kd',rfl,rfl⟩:=hq
  repeat' (first
   |(refine k_L ?_;refine a_p rfl ?_)
   |refine a_n ?_)
  refine r_nx ((mkW x.H q.1 w,kd'):PQ) ⟨n1,fun w' hw'=>?_⟩ (he:=Pm.ent pmt)
  rw[List.take_add_one,List.mem_append]at hw'
  rcases hw' with hw'|hw'
  ·exact(hv.2 w' hw').grow n2
  ·rw[show x.H.regs[i]?=some w from gw]at hw'
   simp only[Option.toList_some,List.mem_singleton]at hw'
   subst hw';exact n3
 ·obtain⟨hv1,hv2⟩:=hv
  rw[List.take_of_length_le (by exact Nat.le_refl _)]at hv2
  repeat' (first
   |(refine k_L ?_;first|refine a_p rfl ?_|(refine k_l ?_;refine g_l rfl ?_))
   |refine a_n ?_
   |(refine k_V ?_;first|refine v_seq ?_|refine v_reg ?_)
   |refine s_n ?_)
  refine g_range x.xs.length (fun q:PQ=>[(0,.v (ptr a)),(3,.v (.slice sd.a x.xs.length sd.cap)),(4,.v (.slice q.2.a q.1.2.length q.2.cap)),(39,.v (.slice x.cd.a x.xs.length x.cd.cap))]) (fun q=>sqA sd q.2 q.1++[ro m])
   (fun i q=>MkA x.H (Held x.H) q.1∧(∀w,w∈x.H.regs→Hit x.H q.1.1 w)∧∀(j:Nat) c,j<i→x.H.cells[j]?=some c→c.last=2→q.1.1[j]?=some true) q ⟨hv1,hv2,fun j c hj=>by omega⟩ (fun i q hi hv=>?_) (fun q hv=>?_) (hent:=Pm.ent pmt)
  ·obtain⟨hv1,hv2,hv3⟩:=hv
   obtain⟨y,gy,gc⟩:=HX.at hi
   by_cases hr:y.c.last=2
   ·have hst:=last2 h2 gc hr
    obtain⟨n1,n2,n3⟩:=hv1.next (w:=⟨2,0,i⟩) (fun j hj=>by
     rw[tgt_root gc hst]at hj
     cases hj
     exact⟨by omega,.due gc hr⟩)
    repeat' (first
     |(refine k_L ?_;first|refine a_p rfl ?_|(refine k_i ?_;refine g_i rfl rfl ?_)|(refine k_ls ?_;refine g_ls rfl ?_)|(refine k_st ?_;refine g_sw rfl rfl rfl rfl (Nat.le_of_ble_eq_true rfl) ?_)|(refine k_al ?_;refine a_al ?_))
     |refine a_n ?_
     |(refine k_V ?_;first|refine v_seq ?_|refine v_reg ?_|(refine v_cd rfl (fun hb=>?_) (fun hb=>?_)<;>try(exfalso;omega)))
     |refine sk_zero ?_
     |refine sk_succ ?_
     |refine wk_nil ?_
     |refine wk_cons ?_)
    ·refine g_c rfl (l2mark_n (sd:=sd) (kd:=q.2) (w:=⟨2,0,i⟩) (s:=q.1) (S:=Held x.H) h h1 h2 (formed_at (by omega)) hv1.ok (hv1.ok.len.trans hl)) (fun v As' hq=>?_)
     obtain⟨kd',rfl,rfl⟩:=hq
     repeat' (first
      |(refine k_L ?_;refine a_p rfl ?_)
      |refine a_n ?_)
     refine r_nx ((mkW x.H q.1 ⟨2,0,i⟩,kd'):PQ) ⟨n1,fun w' hw'=>(hv2 w' hw').grow n2,fun j c hj hc hl2=>?_⟩ (he:=Pm.ent pmt)
     by_cases e:j=i
     ·subst e
      exact n3 j (tgt_root gc hst)
     ·exact n2.mono j (hv3 j c (by omega) hc hl2)
   ·repeat' (first
     |(refine k_L ?_;first|refine a_p rfl ?_|(refine k_i ?_;refine g_i rfl rfl ?_)|(refine k_ls ?_;refine g_ls rfl ?_)|(refine k_st ?_;refine g_sw rfl rfl rfl rfl (Nat.le_of_ble_eq_true rfl) ?_)|(refine k_al ?_;refine a_al ?_))
     |refine a_n ?_
     |(refine k_V ?_;first|refine v_seq ?_|refine v_reg ?_|refine v_skip ?_|(refine v_cd rfl (fun hb=>?_) (fun hb=>?_)<;>try(exfalso;omega)))
     |refine sk_zero ?_
     |refine sk_succ ?_
     |refine wk_nil ?_
     |refine wk_cons ?_)
    refine r_nx q ⟨hv1,hv2,fun j c hj hc hl2=>?_⟩ (he:=Pm.ent pmt)
    by_cases e:j=i
    ·subst e;rw[gc]at hc;cases hc;exact absurd hl2 hr
    ·exact hv3 j c (by omega) hc hl2
  ·obtain⟨hv1,hv2,hv3⟩:=hv
   have hfull:HFull x.H q.1.1:=⟨hv2,fun i c hc hr=>hv3 i c (by have:=(List.getElem?_eq_some_iff.1 hc).1;omega) hc hr⟩
   have hall:=hv1.all
   have hok:=hv1.ok
   clear hv1 hv2 hv3
   repeat' (first
    |(refine k_L ?_;refine a_p rfl ?_)
    |refine a_n ?_
    |(refine k_V ?_;first|refine v_seq ?_|refine v_reg ?_))
   refine v_blk ?_
   refine v_loop (fun q:PQ×Int=>[(0,.v (ptr a)),(3,.v (.slice sd.a x.xs.length sd.cap)),(4,.v (.slice q.1.2.a q.1.1.2.length q.1.2.cap)),(9,.v (.int .i64 q.2))]) (fun q=>sqA sd q.1.2 q.1.1++[ro m])
    (fun k q=>k=2*(x.xs.length-q.1.1.2.length)+(if q.2=q.1.1.2.length then 0 else 1)∧MkA x.H (Held x.H) q.1.1∧HFull x.H q.1.1.1∧(q.2=q.1.1.2.length→∀(i:Nat) c,q.1.1.1[i]?=some true→x.H.cells[i]?=some c→RuleC x.H q.1.1.1 c))
    ⟨_,(q,-1),⟨rfl,rfl,rfl,rfl,trivial⟩,Pm.ent pmt,rfl,⟨hok,hall⟩,hfull,fun e=>by dsimp only at e;omega⟩ ?_
   clear hok hfull hall
   rintro k ⟨⟨s0,kd0⟩,bf⟩ ⟨rfl,hma,hfull,hend⟩
   dsimp only at hma hfull hend⊢
   have hcnt0:=hma.ok.cnt
   by_cases hbf:bf=(s0.2.length:Int)
   ·have e:=held_end hma.ok hfull (hend hbf)
    repeat' (first
     |(refine k_L ?_;refine a_p rfl ?_)
     |refine a_n ?_
     |(refine k_V ?_;first|refine v_seq ?_|refine v_reg ?_|refine v_ret ?_|refine v_exit ?_|(refine v_cn rfl (fun hb=>?_) (fun hb=>?_)<;>try(exfalso;omega))))
    exact fa_r (As':=[slA 1 bv sd (heldL x.H),ro m]) (fun _ _=>rfl) (by rw[←e];exact Pm.ent pmt) ⟨sd,by rw[heldL_len,hl],rfl⟩
   ·repeat' (first
     |(refine k_L ?_;refine a_p rfl ?_)
     |refine a_n ?_
     |(refine k_V ?_;first|refine v_seq ?_|refine v_reg ?_|refine v_bs ?_|refine v_skip ?_|(refine v_cn rfl (fun hb=>?_) (fun hb=>?_)<;>try(exfalso;omega)))
     |refine s_n ?_)
    refine v_blk ?_
    refine v_loop (fun q:PQ×Nat=>[(0,.v (ptr a)),(3,.v (.slice sd.a x.xs.length sd.cap)),(4,.v (.slice q.1.2.a q.1.1.2.length q.1.2.cap)),(9,.v (.int .i64 s0.2.length)),(10,.v (.int .i64 q.2))]) (fun q=>sqA sd q.1.2 q.1.1++[ro m])
     (fun k q=>k=2*q.1.1.1.count false+q.1.1.2.length-q.2∧q.2≤q.1.1.2.length∧Mk x.H (Held x.H) q.1.1∧Grow s0 q.1.1∧Same s0 q.1.1∧Calm x.H s0 q.1.1 q.2)
     ⟨_,((s0,kd0),0),⟨rfl,rfl,rfl,rfl,rfl,trivial⟩,Pm.ent pmt,rfl,Nat.zero_le _,hma.ok,Grow.refl _,.inl rfl,fun _ k j c hk=>by dsimp only at hk;omega⟩ ?_
    rintro k ⟨⟨s,kd⟩,hd⟩ ⟨rfl,hle,hok,hgr,hsm,hcalm⟩
    dsimp only at hle hok hgr hsm hcalm⊢
    have hcnt:=hok.cnt
    have hgl:=hgr.len
    by_cases hlt:hd<s.2.length
    ·obtain⟨g,gg⟩:∃g,s.2[hd]?=some g:=⟨_,List.getElem?_eq_getElem hlt⟩
     obtain⟨j,rfl,hj⟩:=hok.stk g (List.mem_of_getElem? gg)
     have hjl:j<x.xs.length:=by
      have:=(List.getElem?_eq_some_iff.1 hj).1
      have:=hok.len
      omega
     obtain⟨y,gy,gc⟩:=HX.at hjl
     have hpl:=h2.pl (List.mem_of_getElem? gc)
     have hpr:=h4.pairs j y.c gc
     have hHj:=hok.snd j hj
     repeat' (first
      |(refine k_L ?_;first|refine a_p rfl ?_|(refine k_l ?_;refine g_l rfl ?_)|(refine k_i ?_;refine g_i rfl rfl ?_)|(refine k_ls ?_;refine g_ls rfl ?_)|(refine k_st ?_;refine g_sw rfl rfl rfl rfl (Nat.le_of_ble_eq_true rfl) ?_)|(refine k_al ?_;refine a_al ?_))
      |refine a_n ?_
      |(refine k_V ?_;first|refine v_seq ?_|refine v_reg ?_|refine v_dreg ?_|refine v_bs ?_|refine v_skip ?_|(refine v_cd rfl (fun hb=>?_) (fun hb=>?_)<;>try(exfalso;omega)))
      |refine s_n ?_
      |refine sk_zero ?_
      |refine sk_succ ?_
      |refine wk_nil ?_
      |refine wk_cons ?_)
     refine g_range y.c.pairs.length (fun q:PQ=>[(0,.v (ptr a)),(3,.v (.slice sd.a x.xs.length sd.cap)),(4,.v (.slice q.2.a q.1.2.length q.2.cap)),(9,.v (.int .i64 s0.2.length)),(10,.v (.int .i64 hd)),(11,.box (csw y)),(79,.v (.slice y.d.a y.c.pairs.length y.d.cap))]) (fun q=>sqA sd q.2 q.1++[ro m])
      (fun k q=>Mk x.H (Held x.H) q.1∧Grow s q.1∧Same s q.1∧(q.1=s→∀p,p∈y.c.pairs.take k→(KeyW y.c→Hit x.H s.1 p.key)∧(ValW y.c→Hit x.H s.1 p.key→Hit x.H s.1 p.val))) ((s,kd):PQ) ⟨hok,Grow.refl _,.inl rfl,fun _=>by simp⟩ (fun k q hk hv=>?_) (fun q hv=>?_) (hent:=Pm.ent pmt)
     ·obtain⟨p,gp⟩:∃p,y.c.pairs[k]?=some p:=⟨_,List.getElem?_eq_getElem hk⟩
      have hpm:=List.mem_of_getElem? gp
      obtain⟨hv1,hv2,hv3,hv4⟩:=hv
      obtain⟨k1,v1,_⟩:=hpr k p gp
      have ck:KeyW y.c→∀j,x.H.tgt p.key=some j→j<x.H.cells.length∧Held x.H j:=fun hK j' hj'=>⟨(tgt_lt h2 k1 hj').1,.key hHj gc hpm hK hj'⟩
      have cv:ValW y.c→Hit x.H (keyS x.H y.c p q.1).1 p.key→∀j,x.H.tgt p.val=some j→j<x.H.cells.length∧Held x.H j:=fun hV hH j' hj'=>
       ⟨(tgt_lt h2 v1 hj').1,.val hHj gc hpm hV (fun i hi=>(keyS_ok hv1 ck).1.snd i (hH i hi)) hj'⟩
      obtain⟨n1,n2,n3,n4⟩:=holds_next gp hv1 hv2 hv3 hv4 ck cv
      obtain⟨a1,a2,_,_⟩:=keyS_ok (q:=q.1) hv1 ck
      refine v_seq ?_
      repeat' (first
       |(refine k_L ?_;first|(refine k_i ?_;refine g_i rfl rfl ?_)|(refine k_ls ?_;refine g_ls rfl ?_)|(refine k_st ?_;refine g_sw rfl rfl rfl rfl (Nat.le_of_ble_eq_true rfl) ?_)|(refine k_al ?_;refine a_al ?_))
       |refine a_n ?_
       |(refine k_V ?_;refine v_reg ?_)
       |refine s_n ?_
       |refine sk_zero ?_
       |refine sk_succ ?_
       |refine wk_nil ?_
       |refine wk_cons ?_)
      refine g_cut (fun q2:PQ=>[(0,.v (ptr a)),(3,.v (.slice sd.a x.xs.length sd.cap)),(4,.v (.slice q2.2.a q2.1.2.length q2.2.cap)),(9,.v (.int .i64 s0.2.length)),(10,.v (.int .i64 hd)),(11,.box (csw y)),(13,.box (pv p)),(79,.v (.slice y.d.a y.c.pairs.length y.d.cap)),(80,.v (.int .i64 y.c.pairs.length)),(81,.v (.int .i64 k))]) (fun q2=>sqA sd q2.2 q2.1++[ro m]) (fun q2=>q2.1=keyS x.H y.c p q.1) ?_ (fun q2 hq2=>?_)
      ·by_cases hK:KeyW y.c
       ·have hkw:=hK
        unfold KeyW at hkw
        repeat' (first
         |(refine k_L ?_;refine a_p rfl ?_)
         |refine a_n ?_
         |(refine k_V ?_;first|refine v_seq ?_|refine v_reg ?_|(refine v_cd rfl (fun hb=>?_) (fun hb=>?_)<;>try(exfalso;omega))))
        refine g_c rfl (l2mark_n (sd:=sd) (kd:=q.2) (w:=p.key) (s:=q.1) (S:=Held x.H) h h1 h2 k1 hv1 (hv1.len.trans hl)) (fun v As' hq=>?_)
        obtain⟨kd',rfl,rfl⟩:=hq
        repeat' (first
         |(refine k_L ?_;refine a_p rfl ?_)
         |refine a_n ?_
         |refine s_n ?_)
        exact j_i ((mkW x.H q.1 p.key,kd'):PQ) (by unfold keyS;rw[if_pos hK])
       ·have hkw:=hK
        unfold KeyW at hkw
        repeat' (first
         |(refine k_L ?_;refine a_p rfl ?_)
         |refine a_n ?_
         |(refine k_V ?_;first|refine v_seq ?_|refine v_reg ?_|refine v_skip ?_|(refine v_cd rfl (fun hb=>?_) (fun hb=>?_)<;>try(exfalso;omega)))
         |refine s_n ?_)
        exact j_i q (by unfold keyS;rw[if_neg hK])
      ·obtain⟨q2,kd2⟩:=q2
       dsimp only at hq2⊢
       subst hq2
       have hat:=fun hk2=>k1.at hk2
       have yes:∀hH:Hit x.H (keyS x.H y.c p q.1).1 p.key,∀hV:ValW y.c,valS x.H y.c p (keyS x.H y.c p q.1)=mkW x.H (keyS x.H y.c p q.1) p.val:=fun hH hV=>by unfold valS;rw[if_pos ⟨hV,hH⟩]
       have nay:¬(ValW y.c∧Hit x.H (keyS x.H y.c p q.1).1 p.key)→valS x.H y.c p (keyS x.H y.c p q.1)=keyS x.H y.c p q.1:=fun hn=>by unfold valS;rw[if_neg hn]
       have a3:=a1.len.trans hl
       by_cases hk2:p.key.kind=2
       ·have ht:x.H.tgt p.key=some (x.H.lead p.key).at_.toNat:=by unfold Heap.tgt;rw[if_pos (lead_kind.2 hk2)]
        have hlt:=tgt_lt h2 k1 ht
        generalize(x.H.lead p.key).at_.toNat=kk at ht hlt
        have e:x.H.lead p.key=⟨2,(x.H.lead p.key).num,(kk:Int)⟩:=by rw[←hlt.2.1,←hlt.2.2]
        obtain⟨b,gb⟩:∃b,(keyS x.H y.c p q.1).1[kk]?=some b:=⟨_,List.getElem?_eq_getElem (by rw[a1.len];exact hlt.1)⟩
        have hHb:Hit x.H (keyS x.H y.c p q.1).1 p.key↔b=true:=by
         constructor
         ·intro hH
          have:=hH kk ht
          rw[gb]at this;simpa using this
         ·intro hb j' hj'
          rw[ht]at hj';cases hj'
          rw[gb,hb]
        by_cases hV:ValW y.c
        ·have hvw:=hV
         unfold ValW at hvw
         cases b with
         |true=>
          rw[yes (hHb.2 rfl) hV]at n1 n2 n3 n4
          repeat' (first
           |(refine k_L ?_;first|refine a_p rfl ?_|(refine k_g ?_;first|refine a_gy rfl rfl ?_|(refine a_gd rfl (fun hb=>?_) (fun hb=>?_)<;>try(exfalso;omega)))|(refine k_l ?_;refine g_l rfl ?_)|(refine k_i ?_;refine g_i rfl rfl ?_)|(refine k_st ?_;refine g_sw rfl rfl rfl rfl (Nat.le_of_ble_eq_true rfl) ?_)|(refine k_al ?_;refine a_al ?_)|(refine k_c ?_;refine a_cq rfl (fun m hm=>qt_e (l1resolve_q (has_g h hm) hat) (congrArg wa e)) ?_))
           |refine a_n ?_
           |(refine k_V ?_;first|refine v_seq ?_|refine v_reg ?_|refine v_ct rfl ?_)
           |refine sk_zero ?_
           |refine sk_succ ?_
           |refine wk_nil ?_
           |refine wk_cons ?_)
          refine g_c rfl (l2mark_n (sd:=sd) (kd:=kd2) (w:=p.val) (s:=keyS x.H y.c p q.1) (S:=Held x.H) h h1 h2 v1 a1 a3) (fun v As' hq=>?_)
          obtain⟨kd',rfl,rfl⟩:=hq
          repeat' (first
           |(refine k_L ?_;refine a_p rfl ?_)
           |refine a_n ?_)
          exact r_nx ((mkW x.H (keyS x.H y.c p q.1) p.val,kd'):PQ) ⟨n1,n2,n3,n4⟩ (he:=Pm.ent pmt)
         |false=>
          rw[nay (fun h=>by have:=hHb.1 h.2;cases this)]at n1 n2 n3 n4
          repeat' (first
           |(refine k_L ?_;first|refine a_p rfl ?_|(refine k_g ?_;first|refine a_gy rfl rfl ?_|(refine a_gd rfl (fun hb=>?_) (fun hb=>?_)<;>try(exfalso;omega)))|(refine k_l ?_;refine g_l rfl ?_)|(refine k_i ?_;refine g_i rfl rfl ?_)|(refine k_st ?_;refine g_sw rfl rfl rfl rfl (Nat.le_of_ble_eq_true rfl) ?_)|(refine k_al ?_;refine a_al ?_)|(refine k_c ?_;refine a_cq rfl (fun m hm=>qt_e (l1resolve_q (has_g h hm) hat) (congrArg wa e)) ?_))
           |refine a_n ?_
           |(refine k_V ?_;first|refine v_seq ?_|refine v_reg ?_|refine v_skip ?_|refine v_cf rfl ?_)
           |refine sk_zero ?_
           |refine sk_succ ?_
           |refine wk_nil ?_
           |refine wk_cons ?_)
          exact r_nx ((keyS x.H y.c p q.1,kd2):PQ) ⟨n1,n2,n3,n4⟩ (he:=Pm.ent pmt)
        ·have hvw:=hV
         unfold ValW at hvw
         rw[nay (fun h=>hV h.1)]at n1 n2 n3 n4
         repeat' (first
          |(refine k_L ?_;first|refine a_p rfl ?_|(refine k_g ?_;first|refine a_gn rfl rfl ?_|refine a_gu rfl ?_|(refine a_gd rfl (fun hb=>?_) (fun hb=>?_)<;>try(exfalso;omega)))|(refine k_st ?_;refine g_sw rfl rfl rfl rfl (Nat.le_of_ble_eq_true rfl) ?_)|(refine k_al ?_;refine a_al ?_)|(refine k_c ?_;refine a_cq rfl (fun m hm=>qt_e (l1resolve_q (has_g h hm) hat) (congrArg wa e)) ?_))
          |refine a_n ?_
          |(refine k_V ?_;first|refine v_seq ?_|refine v_reg ?_|refine v_skip ?_|refine v_cf rfl ?_)
          |refine sk_zero ?_
          |refine sk_succ ?_
          |refine wk_nil ?_
          |refine wk_cons ?_)
         exact r_nx ((keyS x.H y.c p q.1,kd2):PQ) ⟨n1,n2,n3,n4⟩ (he:=Pm.ent pmt)
       ·have ht:x.H.tgt p.key=none:=by unfold Heap.tgt;rw[if_neg (fun h=>hk2 (lead_kind.1 h))]
        have hk3:¬(x.H.lead p.key).kind=2:=fun h=>hk2 (lead_kind.1 h)
        have hH:Hit x.H (keyS x.H y.c p q.1).1 p.key:=fun j' hj'=>by rw[ht]at hj';cases hj'
        by_cases hV:ValW y.c
        ·have hvw:=hV
         unfold ValW at hvw
         rw[yes hH hV]at n1 n2 n3 n4
         repeat' (first
          |(refine k_L ?_;first|refine a_p rfl ?_|(refine k_g ?_;first|refine a_gy rfl rfl ?_|refine a_gn rfl rfl ?_|(refine a_gd rfl (fun hb=>?_) (fun hb=>?_)<;>try(exfalso;omega))|(refine a_gne rfl (fun hb=>?_) (fun hb=>?_)<;>try(exfalso;omega)))|(refine k_st ?_;refine g_sw rfl rfl rfl rfl (Nat.le_of_ble_eq_true rfl) ?_)|(refine k_al ?_;refine a_al ?_)|(refine k_c ?_;refine a_cq rfl (fun m hm=>l1resolve_q (has_g h hm) hat) ?_))
          |refine a_n ?_
          |(refine k_V ?_;first|refine v_seq ?_|refine v_reg ?_|refine v_ct rfl ?_)
          |refine sk_zero ?_
          |refine sk_succ ?_
          |refine wk_nil ?_
          |refine wk_cons ?_)
         refine g_c rfl (l2mark_n (sd:=sd) (kd:=kd2) (w:=p.val) (s:=keyS x.H y.c p q.1) (S:=Held x.H) h h1 h2 v1 a1 a3) (fun v As' hq=>?_)
         obtain⟨kd',rfl,rfl⟩:=hq
         repeat' (first
          |(refine k_L ?_;refine a_p rfl ?_)
          |refine a_n ?_)
         exact r_nx ((mkW x.H (keyS x.H y.c p q.1) p.val,kd'):PQ) ⟨n1,n2,n3,n4⟩ (he:=Pm.ent pmt)
        ·have hvw:=hV
         unfold ValW at hvw
         rw[nay (fun h=>hV h.1)]at n1 n2 n3 n4
         repeat' (first
          |(refine k_L ?_;first|refine a_p rfl ?_|(refine k_g ?_;first|refine a_gn rfl rfl ?_|refine a_gu rfl ?_|(refine a_gd rfl (fun hb=>?_) (fun hb=>?_)<;>try(exfalso;omega)))|(refine k_st ?_;refine g_sw rfl rfl rfl rfl (Nat.le_of_ble_eq_true rfl) ?_)|(refine k_al ?_;refine a_al ?_)|(refine k_c ?_;refine a_cq rfl (fun m hm=>l1resolve_q (has_g h hm) hat) ?_))
          |refine a_n ?_
          |(refine k_V ?_;first|refine v_seq ?_|refine v_reg ?_|refine v_skip ?_|refine v_cf rfl ?_)
          |refine sk_zero ?_
          |refine sk_succ ?_
          |refine wk_nil ?_
          |refine wk_cons ?_)
         exact r_nx ((keyS x.H y.c p q.1,kd2):PQ) ⟨n1,n2,n3,n4⟩ (he:=Pm.ent pmt)
     ·obtain⟨hv1,hv2,hv3,hv4⟩:=hv
      rw[List.take_of_length_le (Nat.le_refl _)]at hv4
      have hgl2:=hv2.len
      have hmsr:=hv2.msr
      repeat' (first
       |(refine k_L ?_;first|(refine k_ad ?_;refine g_ad rfl rfl ?_)|refine a_p rfl ?_)
       |refine a_n ?_
       |(refine k_V ?_;refine v_reg ?_)
       |refine s_n ?_)
      refine⟨_,(q,hd+1),?_,⟨rfl,rfl,rfl,rfl,rfl,trivial⟩,Pm.ent pmt,rfl,?_,hv1,hgr.trans hv2,hsm.trans hv3 hgl2 hgl,fun e k' j' c hk' hg' hc'=>?_⟩
      ·dsimp only;omega
      ·dsimp only;omega
      ·dsimp only at e hk'
       have es:s=s0:=by
        rcases hsm with h'|h'
        ·exact h'
        ·exfalso;rw[e]at hgl2;omega
       subst es
       by_cases ek:k'=hd
       ·subst ek
        rw[gg]at hg'
        have:j'=j:=by have:=Option.some.inj hg';omega
        subst this
        rw[gc]at hc';cases hc'
        exact fun p hp=>hv4 e p hp
       ·exact hcalm rfl k' j' c (by omega) hg' hc'
    ·repeat' (first
      |(refine k_L ?_;refine a_p rfl ?_)
      |refine a_n ?_
      |(refine k_V ?_;first|refine v_seq ?_|refine v_reg ?_|refine v_exit ?_|(refine v_cd rfl (fun hb=>?_) (fun hb=>?_)<;>try(exfalso;omega)))
      |refine s_n ?_
      |refine s_e ?_
      |refine b_n ?_
      |refine b_e ?_)
     refine⟨_,((s,kd),(s0.2.length:Int)),?_,⟨rfl,rfl,rfl,rfl,trivial⟩,Pm.ent pmt,rfl,⟨hok,fun j hj=>?_⟩,⟨fun w hw=>(hfull.regs w hw).grow hgr,fun i c hc hl2=>hgr.mono i (hfull.dues i c hc hl2)⟩,fun e i c hi hc=>?_⟩
     ·dsimp only
      rw[if_neg hbf]
      rcases hsm with rfl|hs
      ·rw[if_pos rfl];omega
      ·split<;>omega
     ·rcases hgr.new j hj with h'|h'
      ·exact hgr.old _ (hma.all j h')
      ·exact h'
     ·dsimp only at e hi⊢
      rcases hsm with rfl|hs
      ·obtain⟨k,hk⟩:=List.getElem?_of_mem (hma.all i hi)
       have hkl:=(List.getElem?_eq_some_iff.1 hk).1
       exact hcalm rfl k i c (by omega) hk hc
      ·omega
abbrev WE:=D×List Word
def WE.sl(e:WE):Value:=.slice e.1.a e.2.length e.1.cap
def PairOk(H:Heap)(seen:List Bool)(W:List WE)(c:Cell)(p:Pair):Prop:=
 (KeyW c→Hit H seen p.key)∧(ValW c→Hit H seen p.val∨∃k e,H.tgt p.key=some k∧W[k]?=some e∧p.val∈e.2)
structure HI (H:Heap) (s:List Bool×List Int) (W:List WE) (B:Nat) (pc:Nat) (ex ew:Nat→Prop):Prop where
 mk':Mk H (Held H) s
 pc:pc+s.2.length+s.1.count false≤H.cells.length
 wl:W.length=H.cells.length
 wlen:∀e,e∈W→e.2.length≤B
 wok:∀(k:Nat) e,W[k]?=some e→∀w,w∈e.2→Formed H w∧(Held H k→∀j,H.tgt w=some j→j<H.cells.length∧Held H j)
 rule:∀(i:Nat) c,s.1[i]?=some true→(i:Int)∉s.2→¬ex i→H.cells[i]?=some c→∀p,p∈c.pairs→PairOk H s.1 W c p
 empt:∀(k:Nat) e,W[k]?=some e→s.1[k]?=some true→(k:Int)∉s.2→¬ew k→e.2=[]
theorem HI.weak{H:Heap}{s:List Bool×List Int}{W:List WE}{B B' pc:Nat}{ex ew:Nat→Prop}(h:HI H s W B pc ex ew)(hB:B≤B'):HI H s W B' pc ex ew:=⟨h.mk',h.pc,h.wl,fun e he=>Nat.le_trans (h.wlen e he) hB,h.wok,h.rule,h.empt⟩
theorem HI.done{H:Heap}{s:List Bool×List Int}{W:List WE}{B pc j:Nat}{c:Cell}(h:HI H s W B pc (fun i=>i=j) (fun _=>False))(hc:H.cells[j]?=some c)(hp:∀p,p∈c.pairs→PairOk H s.1 W c p):HI H s W B pc (fun _=>False) (fun _=>False):=
 ⟨h.mk',h.pc,h.wl,h.wlen,h.wok,fun i c' h1 h2 _ h4 p hp'=>by
   by_cases e:i=j
   ·subst e;rw[hc]at h4;cases h4;exact hp p hp'
   ·exact h.rule i c' h1 h2 e h4 p hp',h.empt⟩
theorem HI.fin{H:Heap}{seen:List Bool}{W:List WE}{B pc:Nat}(h:HI H (seen,[]) W B pc (fun _=>False) (fun _=>False))(hf:HFull H seen):seen=heldL H:=
 held_end h.mk' hf fun i c hi hc p hp=>by
  obtain⟨r1,r2⟩:=h.rule i c hi (by simp) (fun h=>h) hc p hp
  refine⟨r1,fun hv hk=>?_⟩
  rcases r2 hv with r|⟨k,e,ht,he,hm⟩
  ·exact r
  ·have:=h.empt k e he (hk k ht) (by simp) (fun h=>h)
   rw[this]at hm;cases hm
theorem pr_repl{ys:List CS}{i:Nat}{y y':CS}{R:List Asr}(hi:ys[i]?=some y):Ent (prA ys::slA 6 pv y'.d y'.c.pairs::R) (prA (ys.set i y')::R):=⟨fun m hm=>by
 obtain⟨a,r,dj,rfl,h1,b,c,d2,rfl,h2,h3⟩:=hm
 obtain⟨a1,a2,d1,rfl,k1,k2⟩:=star2.1 (pr_out hi h1)
 have hlt:=(List.getElem?_eq_some_iff.1 hi).1
 obtain⟨e1,e2⟩:=disj_un.1 dj
 have e3:=(disj_un'.1 e1).2
 have e4:=(disj_un'.1 e2).2
 have s1:prA (ys.set i y') (b.un a2):=pr_in hlt (star2.2 ⟨b,a2,e3.symm,rfl,h2,k2⟩)
 refine⟨(b.un a2).un c,?_,_,c,disj_un'.2 ⟨d2,e4⟩,rfl,s1,h3⟩
 intro x k hk
 cases h:(b.un a2) x with
 |some k'=>
  rw[un_l h]at hk;cases hk
  cases hb:b x with
  |some k2=>rw[un_l hb]at h;cases h;exact un_r dj (un_l hb)
  |none=>rw[un_n hb]at h;exact un_l (un_r d1 h)
 |none=>rw[un_n h]at hk;exact un_r dj (un_r d2 hk)⟩
theorem a_cs{P:Program}{S:St}{As R:List Asr}{post:St→List Asr→Prop}{r:List I}{x v:Operand}{cd d:D}{ys:List CS}{i:Nat}{y:CS}(ps:List Pair)(hi:ys[i]?=some y)(hx:lc S x=some (.mm cd.b (cd.o+i*8+7)))(hy:ev S v=some (.slice d.a ps.length d.cap))
 (hp:LA P r post S (clA cd (ys.set i ⟨{y.c with pairs:=ps},d.a,d.cap⟩)::R)) (hm:Pm As [clA cd ys,slA 6 pv d ps] R:=by exact pmt):LA P (⟨none,none,.store 1 x v⟩::r) post S As:=by
 refine LA.ent (Bs:=slA 8 csv cd ys::prA ys::slA 6 pv d ps::R) ?_ ?_
 ·refine Ent.trans ⟨fun m hm'=>⟨m,Mem.le_refl _,hm.out m hm'⟩⟩ ?_
  exact cl_open
 refine a_st (n:=1) hx hy rfl rfl (up_h (up_sl (j:=7) (e':=⟨{y.c with pairs:=ps},d.a,d.cap⟩) csv_len hi (by simp[Value.cells]) rfl)) ?_
 refine LA.ent ?_ hp
 refine Ent.trans (Ent.cons (pr_repl (y':=⟨{y.c with pairs:=ps},d.a,d.cap⟩) hi)) ?_
 exact cl_close
theorem tgt_toI{H:Heap}{w:Word}(h2:R2 H)(hf:Formed H w):(∃j:Nat,H.tgt w=some j∧H.toI w=j∧j<H.cells.length)∨(H.tgt w=none∧H.toI w= -1):=by
 by_cases hk:w.kind=2
 ·left
  have ht:H.tgt w=some (H.lead w).at_.toNat:=by unfold Heap.tgt;rw[if_pos (lead_kind.2 hk)]
  have hl:=tgt_lt h2 hf ht
  refine⟨_,ht,?_,hl.1⟩
  unfold Heap.toI
  rw[if_pos hk];exact hl.2.2
 ·right
  refine⟨?_,toI_no hk⟩
  unfold Heap.tgt
  rw[if_neg (fun h=>hk (lead_kind.1 h))]
theorem heldL_get{H:Heap}{j:Nat}(h:j<H.cells.length):(heldL H)[j]?=some (decide (Held H j)):=by
 unfold heldL
 rw[List.getElem?_map,List.getElem?_range h];rfl
theorem Like.formed{H K:Heap}(h:Like H K){w:Word}(hf:Formed H w):Formed K w:=formed_len h.len hf
theorem l4lost_q{m:Mem}{a:Nat}{z:HX}{H:Heap}{sd:D}{w:Word}(h:Has m (hp a z))(hbb:Has m [slA 1 bv sd (heldL H)])(h2:R2 H)(hl:Like H z.H)(hf:Formed H w):
 Qt Tryz.prog 78 [ptr a,.slice sd.a (heldL H).length sd.cap,wa w] m (.bool (decide (Lost H w))):=by
 refine qt_of (fnA_of (fun h=>fn78 (by simp) h) ?_)
 have hat:=fun hk=>(hl.formed hf).at hk
 have hln:=heldL_len H
 have hle:=hl.lead w
 rcases tgt_toI h2 hf with⟨j,ht,he,hj⟩|⟨ht,he⟩
 ·have hg:=heldL_get hj
  have hlk:=(tgt_lt h2 hf ht).2
  have hkk:(H.lead w).kind=2:=hlk.1
  have hka:(H.lead w).at_=j:=hlk.2
  by_cases hh:Held H j
  ·rw[decide_eq_true hh]at hg
   have hg':(heldL H)[(H.lead w).at_.toNat]?=some true:=by rw[hka];exact hg
   repeat' (first
    |(refine k_L ?_;first|refine a_p rfl ?_|(refine k_g ?_;first|refine a_gy rfl rfl ?_|(refine a_gd rfl (fun hb=>?_) (fun hb=>?_)<;>try(exfalso;omega)))|(refine k_l ?_;refine a_l rfl (by exact rd_h (rd_ro hbb (rd_h (r_bool hg')))) ?_)|(refine k_i ?_;refine g_i rfl rfl ?_)|(refine k_st ?_;refine g_sw rfl rfl rfl rfl (Nat.le_of_ble_eq_true rfl) ?_)|(refine k_al ?_;refine a_al ?_)|(refine k_bx ?_;refine a_bx rfl rfl ?_)|(refine k_c ?_;refine a_cq rfl (fun m hm=>qt_e (l1resolve_q (x:=z) (has_g h hm) hat) (by rw[hle])) ?_))
    |refine a_n ?_
    |(refine k_V ?_;first|refine v_seq ?_|refine v_reg ?_|refine v_ret ?_)
    |refine sk_zero ?_
    |refine sk_succ ?_
    |refine wk_nil ?_
    |refine wk_cons ?_)
   exact fa_q (by simp) (fun _ _=>rfl) (ret_f (fun⟨k,hk,hn⟩=>by rw[ht]at hk;cases hk;exact hn hh))
  ·rw[decide_eq_false hh]at hg
   have hg':(heldL H)[(H.lead w).at_.toNat]?=some false:=by rw[hka];exact hg
   repeat' (first
    |(refine k_L ?_;first|refine a_p rfl ?_|(refine k_g ?_;first|refine a_gy rfl rfl ?_|(refine a_gd rfl (fun hb=>?_) (fun hb=>?_)<;>try(exfalso;omega)))|(refine k_l ?_;refine a_l rfl (by exact rd_h (rd_ro hbb (rd_h (r_bool hg')))) ?_)|(refine k_i ?_;refine g_i rfl rfl ?_)|(refine k_st ?_;refine g_sw rfl rfl rfl rfl (Nat.le_of_ble_eq_true rfl) ?_)|(refine k_al ?_;refine a_al ?_)|(refine k_bx ?_;refine a_bx rfl rfl ?_)|(refine k_c ?_;refine a_cq rfl (fun m hm=>qt_e (l1resolve_q (x:=z) (has_g h hm) hat) (by rw[hle])) ?_))
    |refine a_n ?_
    |(refine k_V ?_;first|refine v_seq ?_|refine v_reg ?_|refine v_ret ?_)
    |refine sk_zero ?_
    |refine sk_succ ?_
    |refine wk_nil ?_
    |refine wk_cons ?_)
   exact fa_q (by simp) (fun _ _=>rfl) (ret_t ⟨j,ht,hh⟩)
 ·have hkk:(H.lead w).kind≠2:=fun e=>by
   unfold Heap.tgt at ht
   rw[if_pos e]at ht;cases ht
  repeat' (first
   |(refine k_L ?_;first|refine a_p rfl ?_|(refine k_g ?_;first|refine a_gn rfl rfl ?_|(refine a_gd rfl (fun hb=>?_) (fun hb=>?_)<;>try(exfalso;omega)))|(refine k_st ?_;refine g_sw rfl rfl rfl rfl (Nat.le_of_ble_eq_true rfl) ?_)|(refine k_al ?_;refine a_al ?_)|(refine k_bx ?_;refine a_bx rfl rfl ?_)|(refine k_c ?_;refine a_cq rfl (fun m hm=>qt_e (l1resolve_q (x:=z) (has_g h hm) hat) (by rw[hle])) ?_))
   |refine a_n ?_
   |(refine k_V ?_;first|refine v_seq ?_|refine v_reg ?_|refine v_ret ?_)
   |refine sk_zero ?_
   |refine sk_succ ?_
   |refine wk_nil ?_
   |refine wk_cons ?_)
  exact fa_q (by simp) (fun _ _=>rfl) (ret_f (fun⟨k,hk,hn⟩=>by rw[ht]at hk;cases hk))
theorem l4scanned_q{m:Mem}{a:Nat}{x:HX}(h:Has m (hp a x)):Qt Tryz.prog 123 [ptr a] m (.int .i64 x.H.walkedI):=by
 refine qt_of (fnA_of (fun h=>fn123 (by simp) h) ?_)
 have hnc:x.hdr.nc=x.xs.length:=rfl
 have hng:x.hdr.ng=x.gray.length:=rfl
 have hl:=x.len
 have hp0:x.hdr.phase=x.H.phase:=rfl
 have hh0:x.hdr.hand=x.H.hand:=rfl
 have hlen:=h.lens
 unfold Heap.walkedI
 by_cases c:x.H.phase=2∧x.H.gray≠[]
 ·rw[if_pos c]
  obtain⟨g,r,hg⟩:∃g r,x.gray=g::r:=by
   cases e:x.gray with
   |nil=>exact absurd (show x.H.gray=[]from e) c.2
   |cons g r=>exact⟨g,r,rfl⟩
  have hgl:x.gray.length=r.length+1:=by rw[hg];rfl
  have gg:x.gray[(0:Int).toNat]?=some g:=by rw[hg];rfl
  have c1:=c.1
  have e1:x.H.gray.headD 0=g:=by show x.gray.headD 0=g;rw[hg];rfl
  rw[e1]
  repeat' (first
   |(refine k_L ?_;first|refine a_p rfl ?_|(refine k_g ?_;first|refine a_gy rfl rfl ?_|(refine a_gd rfl (fun hb=>?_) (fun hb=>?_)<;>try(exfalso;omega)))|(refine k_l ?_;refine g_l rfl ?_)|(refine k_i ?_;refine g_i rfl rfl ?_))
   |refine a_n ?_
   |(refine k_V ?_;first|refine v_seq ?_|refine v_reg ?_|refine v_ret ?_|(refine v_cd rfl (fun hb=>?_) (fun hb=>?_)<;>try(exfalso;omega)))
   |refine s_r ?_)
  exact fa_q (by simp) (fun _ _=>rfl) rfl
 ·rw[if_neg c]
  have hgz:x.H.phase=2→x.gray.length=0:=fun e=>by
   cases e2:x.gray with
   |nil=>rfl
   |cons g r=>exact absurd ⟨e,by show x.gray≠[];rw[e2];simp⟩ c
  by_cases c2:x.H.phase=5∧x.H.hand<x.H.cells.length
  ·rw[if_pos c2]
   have c3:=c2.1
   have c4:=c2.2
   repeat' (first
    |(refine k_L ?_;first|refine a_p rfl ?_|(refine k_g ?_;first|refine a_gy rfl rfl ?_|refine a_gn rfl rfl ?_|(refine a_gd rfl (fun hb=>?_) (fun hb=>?_)<;>try(exfalso;omega)))|(refine k_l ?_;refine g_l rfl ?_))
    |refine a_n ?_
    |(refine k_V ?_;first|refine v_seq ?_|refine v_reg ?_|refine v_dreg ?_|refine v_ret ?_|refine v_skip ?_|refine v_cf rfl ?_|(refine v_cd rfl (fun hb=>?_) (fun hb=>?_)<;>try(exfalso;omega)))
    |refine s_r ?_)
   all_goals exact fa_q (by simp) (fun _ _=>rfl) rfl
  ·rw[if_neg c2]
   have c5:x.H.phase=5→¬x.H.hand<x.H.cells.length:=fun a b=>c2 ⟨a,b⟩
   repeat' (first
    |(refine k_L ?_;first|refine a_p rfl ?_|(refine k_g ?_;first|refine a_gy rfl rfl ?_|refine a_gn rfl rfl ?_|(refine a_gd rfl (fun hb=>?_) (fun hb=>?_)<;>try(exfalso;omega)))|(refine k_l ?_;refine g_l rfl ?_))
    |refine a_n ?_
    |(refine k_V ?_;first|refine v_rv ?_|refine v_seq ?_|refine v_reg ?_|refine v_dreg ?_|refine v_skip ?_|refine v_cf rfl ?_|(refine v_cd rfl (fun hb=>?_) (fun hb=>?_)<;>try(exfalso;omega))))
   all_goals exact fa_q (by simp) (fun _ _=>rfl) rfl
theorem take_s{c:Cell}{k:Nat}{p:Pair}(hp:c.pairs[k]?=some p):c.pairs.take (k+1)=c.pairs.take k++[p]:=by rw[List.take_add_one,hp];rfl
theorem erase_snoc{α:Type}{l:List α}{p:α}{k:Nat}:(l++[p]).eraseIdx k=if l.length=k then l else l.eraseIdx k++(if k<l.length then[p]else[p]):=by
 by_cases h:k<l.length
 ·rw[if_neg (by omega),if_pos h,List.eraseIdx_append_of_lt_length h]
 ·rw[List.eraseIdx_append_of_length_le (by omega)]
  by_cases e:l.length=k
  ·rw[if_pos e,e,Nat.sub_self];simp
  ·rw[if_neg e,if_neg h,List.eraseIdx_of_length_le (l:=l) (by omega),List.eraseIdx_of_length_le (by simp;omega)]
theorem l4cut_a{a:Nat}{z:HX}{i k:Nat}{y:CS}(gy:z.xs[i]?=some y)(hk:k<y.c.pairs.length)(hpl:y.c.pairs.length≤200)(hu: -1000000000≤z.used∧z.used≤1000000000)(hs: -1000000000≤z.sub∧z.sub≤1000000000)(hn:z.xs.length≤8000):
 FnA Tryz.prog 79 [ptr a,.int .i64 i,.int .i64 k] (hp a z) (fun v As=>∃u:HX,As=hp a u∧u.rd=z.rd∧u.H={z.H with cells:=z.H.cells.set i {y.c with pairs:=y.c.pairs.eraseIdx k},used:=z.used-1,sub:=if(k:Int)<z.sub∧z.H.walkedI=i then z.sub-1 else z.sub}):=by
 refine fnA_of (fun h=>fn79 (by simp) h) ?_
 have hnc:z.hdr.nc=z.xs.length:=rfl
 have hlt:=(List.getElem?_eq_some_iff.1 gy).1
 have gy':z.xs[(i:Int).toNat]?=some y:=gy
 have hud:z.hdr.used=z.used:=rfl
 have hsd:z.hdr.sub=z.sub:=rfl
 repeat' (first
  |(refine k_L ?_;first|refine a_p rfl ?_|(refine k_l ?_;refine g_l rfl ?_)|(refine k_i ?_;refine g_i rfl rfl ?_))
  |refine a_n ?_
  |(refine k_V ?_;first|refine v_seq ?_|refine v_reg ?_)
  |refine s_n ?_)
 refine VA.ent (ent_new (f:=pv) (size:=6)) ?_
 refine g_range y.c.pairs.length (fun q:List Pair×D=>[(0,.v (ptr a)),(1,.v (.int .i64 i)),(2,.v (.int .i64 k)),(6,.v (.slice q.2.a q.1.length q.2.cap)),(16,.v (.slice y.d.a y.c.pairs.length y.d.cap))]) (fun q=>slA 6 pv q.2 q.1::hp a z) (fun j q=>q.1=(y.c.pairs.take j).eraseIdx k) (([],⟨none,0⟩):List Pair×D) rfl (fun j q hj hv=>?_) (fun q hv=>?_)
 ·obtain⟨ps,d⟩:=q
  simp only at hv
  subst hv
  obtain⟨p,gp⟩:∃p,y.c.pairs[j]?=some p:=⟨_,List.getElem?_eq_getElem hj⟩
  have hjl:(y.c.pairs.take j).length=j:=by rw[List.length_take];omega
  have hel:((y.c.pairs.take j).eraseIdx k).length≤200:=by
   have:((y.c.pairs.take j).eraseIdx k).length≤(y.c.pairs.take j).length:=(List.eraseIdx_sublist _ _).length_le
   omega
  have es:(y.c.pairs.take (j+1)).eraseIdx k=if j=k then y.c.pairs.take j else(y.c.pairs.take j).eraseIdx k++[p]:=by
   rw[List.take_add_one,gp]
   show(y.c.pairs.take j++[p]).eraseIdx k=_
   rw[erase_snoc,hjl]
   by_cases e:j=k
   ·rw[if_pos e,if_pos e]
   ·rw[if_neg e,if_neg e];split<;>rfl
  dsimp only
  by_cases ejk:j=k
  ·have e1:(y.c.pairs.take j).eraseIdx k=y.c.pairs.take j:=List.eraseIdx_of_length_le (by omega)
   rw[if_pos ejk,←e1]at es
   repeat' (first
    |(refine k_L ?_;first|refine a_p rfl ?_|(refine k_i ?_;refine g_i rfl rfl ?_)|(refine k_ls ?_;refine g_ls rfl ?_)|(refine k_st ?_;refine g_sw rfl rfl rfl rfl (Nat.le_of_ble_eq_true rfl) ?_)|(refine k_al ?_;refine a_al ?_))
    |refine a_n ?_
    |(refine k_V ?_;first|refine v_seq ?_|refine v_reg ?_|refine v_skip ?_|(refine v_cn rfl (fun hb=>?_) (fun hb=>?_)<;>try(exfalso;omega)))
    |refine sk_zero ?_
    |refine sk_succ ?_
    |refine wk_nil ?_
    |refine wk_cons ?_)
   exact r_nx (((y.c.pairs.take j).eraseIdx k,d):List Pair×D) es.symm
  ·rw[if_neg ejk]at es
   repeat' (first
    |(refine k_L ?_;first|refine a_p rfl ?_|(refine k_i ?_;refine g_i rfl rfl ?_)|(refine k_ls ?_;refine g_ls rfl ?_)|(refine k_st ?_;refine g_sw rfl rfl rfl rfl (Nat.le_of_ble_eq_true rfl) ?_)|(refine k_al ?_;refine a_al ?_)|(refine k_bl ?_;refine a_bl rfl ?_))
    |refine a_n ?_
    |(refine k_V ?_;first|refine v_seq ?_|refine v_reg ?_|(refine v_cn rfl (fun hb=>?_) (fun hb=>?_)<;>try(exfalso;omega)))
    |refine sk_zero ?_
    |refine sk_succ ?_
    |refine wk_nil ?_
    |refine wk_cons ?_)
   refine g_ap p pv_len rfl rfl rfl (by omega) (fun d'=>?_)
   repeat' (first
    |(refine k_L ?_;refine a_p rfl ?_)
    |refine a_n ?_)
   exact r_nx (((y.c.pairs.take j).eraseIdx k++[p],d'):List Pair×D) es.symm
 ·obtain⟨ps,d⟩:=q
  simp only at hv
  rw[List.take_length]at hv
  subst hv
  dsimp only
  generalize hZ:({z with xs:=z.xs.set i ⟨{y.c with pairs:=y.c.pairs.eraseIdx k},d.a,d.cap⟩,used:=z.used-1}:HX)=Z
  have hd:z.hdr.s_used (z.hdr.used-1)=Z.hdr:=by rw[←hZ];simp[HX.hdr,Hdr.s_used]
  have e1:Z.rd=z.rd∧Z.regs=z.regs∧Z.cd=z.cd∧Z.gd=z.gd∧Z.gray=z.gray∧Z.xs=z.xs.set i ⟨{y.c with pairs:=y.c.pairs.eraseIdx k},d.a,d.cap⟩:=by rw[←hZ];exact⟨rfl,rfl,rfl,rfl,rfl,rfl⟩
  have zs:Z.sub=z.sub:=by rw[←hZ]
  have zH:Z.H={z.H with cells:=z.H.cells.set i {y.c with pairs:=y.c.pairs.eraseIdx k},used:=z.used-1}:=by
   rw[←hZ]
   unfold HX.H
   simp only[List.map_set]
  have zw:Z.H.walkedI=z.H.walkedI:=by
   rw[zH]
   unfold Heap.walkedI
   simp only[List.length_set]
  have pm:∀h:Hdr,Ent (clA z.cd (z.xs.set (i:Int).toNat ⟨{y.c with pairs:=y.c.pairs.eraseIdx k},d.a,d.cap⟩)::hdA a h::slA 3 wv z.rd z.regs::slA 1 iv z.gd z.gray::[]) [hdA a h,slA 3 wv Z.rd Z.regs,clA Z.cd Z.xs,slA 1 iv Z.gd Z.gray]:=fun h=>by
   rw[e1.1,e1.2.1,e1.2.2.1,e1.2.2.2.1,e1.2.2.2.2.1,e1.2.2.2.2.2]
   exact Pm.ent pmt
  repeat' (first
   |(refine k_L ?_;first|(refine k_su ?_;refine g_su rfl rfl ?_)|refine a_p rfl ?_|(refine k_g ?_;first|refine a_gy rfl rfl ?_|refine a_gn rfl rfl ?_|(refine a_gd rfl (fun hb=>?_) (fun hb=>?_)<;>try(exfalso;omega)))|(refine k_l ?_;refine g_l rfl ?_)|(refine k_i ?_;refine g_i rfl rfl ?_)|(refine k_st ?_;refine g_st rfl rfl rfl rfl ?_)|(refine a_cs (y.c.pairs.eraseIdx k) gy' rfl rfl ?_))
   |refine a_n ?_
   |(refine k_V ?_;first|refine v_seq ?_|refine v_reg ?_|refine v_skip ?_|refine v_cf rfl ?_))
  ·have hks:(k:Int)<z.sub:=by have:(z.hdr.s_used (z.hdr.used-1)).sub=z.sub:=rfl;omega
   rw[hd]
   refine LA.ent (Bs:=hp a Z) (pm _) ?_
   have zsd:Z.hdr.sub=z.sub:=zs
   repeat' (first
    |(refine k_L ?_;first|(refine k_su ?_;refine g_su rfl rfl ?_)|refine a_p rfl ?_|(refine k_g ?_;refine a_gy rfl rfl ?_)|(refine k_l ?_;refine g_l rfl ?_)|(refine k_st ?_;refine g_st rfl rfl rfl rfl ?_)|(refine k_c ?_;refine a_cq rfl (fun m hm=>qt_e (l4scanned_q (x:=Z) (sep_has hm pmt)) (by rw[zw])) ?_))
    |refine a_n ?_
    |(refine k_V ?_;first|refine v_reg ?_|refine v_skip ?_|(refine v_cd rfl (fun hb=>?_) (fun hb=>?_)<;>try(exfalso;omega))))
   ·refine fa_n (fun _ _=>rfl) (Pm.ent (fin {Z with sub:=Z.sub-1})) ⟨_,rfl,e1.1,?_⟩
    rw[if_pos ⟨hks,by assumption⟩]
    show({Z.H with sub:=Z.sub-1}:Heap)=_
    rw[zH,zs]
   ·refine fa_n (fun _ _=>rfl) (Pm.ent (fin Z)) ⟨_,rfl,e1.1,?_⟩
    rw[if_neg (fun h=>absurd h.2 (by assumption)),zH]
    rfl
  ·have hks:¬(k:Int)<z.sub:=by have:(z.hdr.s_used (z.hdr.used-1)).sub=z.sub:=rfl;omega
   rw[hd]
   refine fa_n (fun _ _=>rfl) (pm _) ⟨Z,rfl,e1.1,?_⟩
   rw[if_neg (fun h=>hks h.1),zH]
   rfl
theorem cutN_get{K:Heap}{i m:Nat}(hi:i<K.cells.length):(K.cutN i m).getC i={K.getC i with pairs:=(K.getC i).pairs.take m}:=by
 unfold Heap.cutN
 rw[putC_get hi,if_pos (by omega)]
theorem cut_step{K:Heap}{i m:Nat}(hi:i<K.cells.length)(hm:m+1≤(K.getC i).pairs.length)(hs:0≤K.sub):
 {K.cutN i (m+1)with cells:=(K.cutN i (m+1)).cells.set i {(K.cutN i (m+1)).getC i with pairs:=((K.cutN i (m+1)).getC i).pairs.eraseIdx m},used:=(K.cutN i (m+1)).used-1,sub:=if(m:Int)<(K.cutN i (m+1)).sub∧(K.cutN i (m+1)).walkedI=i then(K.cutN i (m+1)).sub-1 else(K.cutN i (m+1)).sub}=K.cutN i m:=by
 rw[cutN_get hi]
 have hl:(K.cutN i (m+1)).cells.length=K.cells.length:=by unfold Heap.cutN Heap.putC;simp
 have hw:(K.cutN i (m+1)).walkedI=K.walkedI:=by
  unfold Heap.walkedI
  rw[hl];rfl
 rw[hw]
 have e1:((K.getC i).pairs.take (m+1)).eraseIdx m=(K.getC i).pairs.take m:=by
  rw[List.eraseIdx_eq_take_drop_succ,List.take_take,List.drop_eq_nil_of_le (by rw[List.length_take];omega),List.append_nil]
  congr 1;omega
 rw[e1]
 unfold Heap.cutN Heap.putC
 simp only[List.set_set,Heap.mk.injEq,true_and,and_true]
 refine⟨by omega,?_⟩
 by_cases w:K.walkedI=i
 ·rw[if_pos w,if_pos w]
  split<;>omega
 ·rw[if_neg w,if_neg (fun e=>w e.2),if_neg w]
theorem cut_top{K:Heap}{i:Nat}(h:Sound K)(hi:i<K.cells.length):K.cutN i (K.getC i).pairs.length=K:=by
 unfold Heap.cutN Heap.putC
 have e1:K.cells.set i {K.getC i with pairs:=(K.getC i).pairs.take (K.getC i).pairs.length}=K.cells:=by
  rw[List.take_length]
  refine List.ext_getElem? fun j=>?_
  rw[List.getElem?_set]
  split
  ·rename_i e
   subst e
   rw[get_at hi]
  ·rfl
 rw[e1]
 have e2:(if K.walkedI=i then min K.sub (K.getC i).pairs.length else K.sub)=K.sub:=by
  split
  ·rename_i w;have:=walked_sub h hi w;omega
  ·rfl
 rw[e2]
 have e3:K.used-(((K.getC i).pairs.length:Int)-((K.getC i).pairs.length:Nat))=K.used:=by omega
 rw[e3]
theorem l5cut_a{a:Nat}{x:HX}{i n:Nat}(h:Sound x.H)(hi:i<x.xs.length)(hs:(x.H.getC i).state=1):FnA Tryz.prog 145 [ptr a,.int .i64 i,.int .i64 n] (hp a x) (fun v As=>∃z:HX,As=hp a z∧z.H=x.H.cutH i n):=by
 have hl:=x.len
 have hi':i<x.H.cells.length:=by omega
 have hub:=used_b h
 have hc8:=h.r1.cells
 have hrm:=h.r1.room
 have hsb:=h.r1.sub
 have hpl:=getC_pl h.r2 i
 refine fnA_of (fun h=>fn145 (by simp) h) ?_
 refine v_blk ?_
 generalize hL:(x.H.getC i).pairs.length=L at*
 have hcut:∀m:Nat,m≤L→Sound (x.H.cutN i m):=fun m hm=>cutN_sound h hi' hs (by omega)
 refine v_loop (fun q:Nat×HX=>[(0,.v (ptr a)),(1,.v (.int .i64 i)),(2,.v (.int .i64 n))]) (fun q=>hp a q.2) (fun k q=>k=q.1∧q.1≤L∧(n≤q.1∨q.1=L)∧q.2.H=x.H.cutN i q.1) ⟨_,(L,x),⟨rfl,rfl,rfl,trivial⟩,Ent.refl _,rfl,Nat.le_refl _,.inr rfl,by rw[←hL];exact(cut_top h hi').symm⟩ ?_
 rintro k ⟨m,z⟩ ⟨rfl,hm,hn,hz⟩
 simp only at hm hn hz
 dsimp only
 have hs2:Sound z.H:=by rw[hz];exact hcut k hm
 have hzl:z.xs.length=x.xs.length:=by
  have:=congrArg (fun K:Heap=>K.cells.length) hz
  simp only[HX.len]at this
  unfold Heap.cutN Heap.putC at this
  simpa [HX.len]using this
 have hnc:z.hdr.nc=z.xs.length:=rfl
 obtain⟨y,gy,gc⟩:=HX.at (x:=z) (i:=i) (by omega)
 have gk:=HX.gc gy
 have gz:y.c={x.H.getC i with pairs:=(x.H.getC i).pairs.take k}:=by rw[←gk,hz,cutN_get hi']
 have gp:y.c.pairs.length=k:=by rw[gz];simp;omega
 have zb:=used_b hs2
 have zs:=hs2.r1.sub
 have zu:z.used=z.H.used:=rfl
 have zs':z.sub=z.H.sub:=rfl
 have zd:z.hdr.used=z.used:=rfl
 by_cases hkn:n<k
 ·obtain⟨j,rfl⟩:∃j,k=j+1:=⟨k-1,by omega⟩
  have e28:(y.c.pairs.length:Int)-1=j:=by omega
  repeat' (first
   |(refine k_L ?_;first|(refine k_su ?_;refine g_su rfl rfl ?_)|refine a_p rfl ?_|(refine k_l ?_;refine g_l rfl ?_)|(refine k_i ?_;refine g_i rfl rfl ?_))
   |refine a_n ?_
   |(refine k_V ?_;first|refine v_seq ?_|refine v_reg ?_|refine v_br ?_|refine v_skip ?_|(refine v_cd rfl (fun hb=>?_) (fun hb=>?_)<;>try(exfalso;omega))))
  rw[e28]
  refine g_c rfl (l4cut_a (z:=z) (i:=i) (k:=j) gy (by omega) (by omega) (by omega) (by omega) (by omega)) (fun v As' hq=>?_)
  obtain⟨u,rfl,_,hu⟩:=hq
  repeat' (first
   |refine a_n ?_
   |refine s_n ?_
   |refine b_n ?_)
  refine⟨j,(j,u),by omega,⟨rfl,rfl,rfl,trivial⟩,Pm.ent pmt,rfl,by omega,.inl (by omega),?_⟩
  show u.H=x.H.cutN i j
  rw[hu,←gk]
  have:=cut_step (K:=x.H) (i:=i) (m:=j) hi' (by omega) hsb.1
  rw[←hz]at this
  exact this
 ·repeat' (first
   |(refine k_L ?_;first|refine a_p rfl ?_|(refine k_l ?_;refine g_l rfl ?_)|(refine k_i ?_;refine g_i rfl rfl ?_))
   |refine a_n ?_
   |(refine k_V ?_;first|refine v_seq ?_|refine v_reg ?_|refine v_exit ?_|(refine v_cd rfl (fun hb=>?_) (fun hb=>?_)<;>try(exfalso;omega)))
   |refine s_e ?_
   |refine b_e ?_)
  refine fa_n (fun _ _=>rfl) (Pm.ent pmt) ⟨z,rfl,?_⟩
  rw[hz]
  unfold Heap.cutH
  by_cases e:n<(x.H.getC i).pairs.length
  ·rw[if_pos e]
   congr 1;omega
  ·rw[if_neg e]
   have:k=(x.H.getC i).pairs.length:=by omega
   rw[this];exact cut_top h hi'
theorem getR_at{x:HX}{k:Nat}{w:Word}(h:x.regs[k]?=some w):x.H.getR k=w:=by
 unfold Heap.getR
 show x.regs.getD _ _=w
 rw[List.getD_eq_getElem?_getD,Int.toNat_natCast,h];rfl
theorem l5pair_rd{a:Nat}{x:HX}{op n:Int}{ka kb kc:Nat}(h:Sound x.H)(ha:ka≤15)(hb:kb≤15)(ho:op=5∨op=6):FnA Tryz.prog 136 [ptr a,.agg #[.int .i64 op,.int .i64 ka,.int .i64 kb,.int .i64 kc,.int .i64 n]] (hp a x) (fun v As=>∃z:HX,v=an (doPair x.H ⟨op,ka,kb,kc,n⟩).code (doPair x.H ⟨op,ka,kb,kc,n⟩).num∧As=hp a z∧z.H=(doPair x.H ⟨op,ka,kb,kc,n⟩).heap):=by
 have hl:=x.len
 have hnc:x.hdr.nc=x.xs.length:=rfl
 have hnr:x.hdr.nr=x.regs.length:=rfl
 have h16:x.regs.length=16:=h.r1.regs
 obtain⟨wa_,ga⟩:∃w,x.regs[ka]?=some w:=⟨_,List.getElem?_eq_getElem (by omega)⟩
 obtain⟨w,gw⟩:∃w,x.regs[kb]?=some w:=⟨_,List.getElem?_eq_getElem (by omega)⟩
 have er:x.H.getR kb=w:=getR_at gw
 obtain⟨r1,r2⟩:=getR_ok h (r:=kb) (by omega) (by omega)
 rw[er]at r1 r2
 refine fnA_of (fun h=>fn136 (by simp) h) ?_
 unfold doPair
 dsimp only
 rw[if_pos ho,er]
 by_cases hk:w.kind=2
 ·obtain⟨b0,b1,b2,b3⟩:=r2 hk
  obtain⟨j,hj⟩:=Int.eq_ofNat_of_zero_le b0
  obtain⟨wk,wn,wat⟩:=w
  dsimp only at hk hj b1
  subst hk hj
  obtain⟨y,gy,gc⟩:=HX.at (x:=x) (i:=j) (by omega)
  have gk:=HX.gc gy
  rw[if_neg (fun e=>e rfl)]
  dsimp only
  rw[gk,Int.toNat_natCast]
  have hcj:x.H.cells[j]?=some y.c:=gc
  cases hpp:y.c.pairs[kc]? with
  |none=>
   have:=List.getElem?_eq_none_iff.1 hpp
   rcases ho with rfl|rfl
   ·repeat' (first
     |(refine k_L ?_;first|refine a_p rfl ?_|(refine k_g ?_;refine a_gn rfl rfl ?_)|(refine k_l ?_;first|refine a_l rfl (by exact rd_t (rd_h (rd_sl (fun _=>rfl) gw rfl))) ?_|refine g_l rfl ?_)|(refine k_i ?_;refine g_i rfl rfl ?_)|(refine k_st ?_;refine g_sw rfl rfl rfl rfl (Nat.le_of_ble_eq_true rfl) ?_)|(refine k_al ?_;refine a_al ?_)|(refine k_bx ?_;refine a_bx rfl rfl ?_)|(refine k_c ?_;refine a_cq rfl (fun m hm=>l5bad_q) ?_))
     |refine a_n ?_
     |(refine k_V ?_;first|refine v_seq ?_|refine v_reg ?_|refine v_dreg ?_|refine v_ret ?_|refine v_skip ?_|refine v_ct rfl ?_|refine v_cf rfl ?_|(refine v_cd rfl (fun hb=>?_) (fun hb=>?_)<;>try(exfalso;omega)))
     |refine s_r ?_
     |refine sk_zero ?_
     |refine sk_succ ?_
     |refine wk_nil ?_
     |refine wk_cons ?_)
    all_goals exact fa_r (fun _ _=>rfl) (Pm.ent pmt) ⟨x,rfl,rfl,rfl⟩
   ·repeat' (first
     |(refine k_L ?_;first|refine a_p rfl ?_|(refine k_g ?_;refine a_gy rfl rfl ?_)|(refine k_l ?_;first|refine a_l rfl (by exact rd_t (rd_h (rd_sl (fun _=>rfl) gw rfl))) ?_|refine g_l rfl ?_)|(refine k_i ?_;refine g_i rfl rfl ?_)|(refine k_st ?_;refine g_sw rfl rfl rfl rfl (Nat.le_of_ble_eq_true rfl) ?_)|(refine k_al ?_;refine a_al ?_)|(refine k_bx ?_;refine a_bx rfl rfl ?_)|(refine k_c ?_;refine a_cq rfl (fun m hm=>l5bad_q) ?_))
     |refine a_n ?_
     |(refine k_V ?_;first|refine v_seq ?_|refine v_reg ?_|refine v_dreg ?_|refine v_ret ?_|refine v_skip ?_|refine v_ct rfl ?_|refine v_cf rfl ?_|(refine v_cd rfl (fun hb=>?_) (fun hb=>?_)<;>try(exfalso;omega)))
     |refine s_r ?_
     |refine sk_zero ?_
     |refine sk_succ ?_
     |refine wk_nil ?_
     |refine wk_cons ?_)
    all_goals exact fa_r (fun _ _=>rfl) (Pm.ent pmt) ⟨x,rfl,rfl,rfl⟩
  |some p=>
   have:=(List.getElem?_eq_some_iff.1 hpp).1
   obtain⟨p1,p2,_⟩:=h.r4.pairs j y.c hcj kc p hpp
   have fk:p.key.kind=2→0≤p.key.at_∧p.key.at_<x.H.cells.length:=fun e=>p1.at e
   have fv:p.val.kind=2→0≤p.val.at_∧p.val.at_<x.H.cells.length:=fun e=>p2.at e
   rcases ho with rfl|rfl
   ·repeat' (first
     |(refine k_L ?_;first|refine a_p rfl ?_|(refine k_g ?_;refine a_gn rfl rfl ?_)|(refine k_l ?_;first|refine a_l rfl (by exact rd_t (rd_h (rd_sl (fun _=>rfl) gw rfl))) ?_|refine g_l rfl ?_)|(refine k_i ?_;refine g_i rfl rfl ?_)|(refine k_ls ?_;refine g_ls rfl ?_)|(refine k_st ?_;first|refine g_st rfl rfl rfl rfl ?_|refine g_sw rfl rfl rfl rfl (Nat.le_of_ble_eq_true rfl) ?_)|(refine k_al ?_;refine a_al ?_)|(refine k_bx ?_;refine a_bx rfl rfl ?_)|(refine k_q ?_;refine a_q rfl (fun m hm=>l1resolve_q (x:=x) (sep_has hm pmt) fk) ?_)|(refine k_c ?_;refine a_cq rfl (fun m hm=>l5fine_q) ?_))
     |refine a_n ?_
     |(refine k_V ?_;first|refine v_seq ?_|refine v_reg ?_|refine v_dreg ?_|refine v_bs ?_|refine v_ret ?_|refine v_skip ?_|refine v_ct rfl ?_|refine v_cf rfl ?_|(refine v_cd rfl (fun hb=>?_) (fun hb=>?_)<;>try(exfalso;omega)))
     |refine s_r ?_
     |refine b_r ?_
     |refine sk_zero ?_
     |refine sk_succ ?_
     |refine wk_nil ?_
     |refine wk_cons ?_)
    all_goals exact fa_r (fun _ _=>rfl) (Pm.ent (fin ({x with regs:=x.regs.set ka (x.H.lead p.key)}:HX) (h1:=by simp[HX.hdr]))) ⟨_,rfl,rfl,rfl⟩
   ·repeat' (first
     |(refine k_L ?_;first|refine a_p rfl ?_|(refine k_g ?_;refine a_gy rfl rfl ?_)|(refine k_l ?_;first|refine a_l rfl (by exact rd_t (rd_h (rd_sl (fun _=>rfl) gw rfl))) ?_|refine g_l rfl ?_)|(refine k_i ?_;refine g_i rfl rfl ?_)|(refine k_ls ?_;refine g_ls rfl ?_)|(refine k_st ?_;first|refine g_st rfl rfl rfl rfl ?_|refine g_sw rfl rfl rfl rfl (Nat.le_of_ble_eq_true rfl) ?_)|(refine k_al ?_;refine a_al ?_)|(refine k_bx ?_;refine a_bx rfl rfl ?_)|(refine k_q ?_;refine a_q rfl (fun m hm=>l1resolve_q (x:=x) (sep_has hm pmt) fv) ?_)|(refine k_c ?_;refine a_cq rfl (fun m hm=>l5fine_q) ?_))
     |refine a_n ?_
     |(refine k_V ?_;first|refine v_seq ?_|refine v_reg ?_|refine v_dreg ?_|refine v_bs ?_|refine v_ret ?_|refine v_skip ?_|refine v_ct rfl ?_|refine v_cf rfl ?_|(refine v_cd rfl (fun hb=>?_) (fun hb=>?_)<;>try(exfalso;omega)))
     |refine s_r ?_
     |refine b_r ?_
     |refine sk_zero ?_
     |refine sk_succ ?_
     |refine wk_nil ?_
     |refine wk_cons ?_)
    all_goals exact fa_r (fun _ _=>rfl) (Pm.ent (fin ({x with regs:=x.regs.set ka (x.H.lead p.val)}:HX) (h1:=by simp[HX.hdr]))) ⟨_,rfl,rfl,rfl⟩
 ·rw[if_pos hk]
  rcases ho with rfl|rfl
  ·repeat' (first
    |(refine k_L ?_;first|refine a_p rfl ?_|(refine k_g ?_;refine a_gn rfl rfl ?_)|(refine k_l ?_;first|refine a_l rfl (by exact rd_t (rd_h (rd_sl (fun _=>rfl) gw rfl))) ?_|refine g_l rfl ?_)|(refine k_i ?_;refine g_i rfl rfl ?_)|(refine k_st ?_;refine g_sw rfl rfl rfl rfl (Nat.le_of_ble_eq_true rfl) ?_)|(refine k_al ?_;refine a_al ?_)|(refine k_bx ?_;refine a_bx rfl rfl ?_)|(refine k_c ?_;refine a_cq rfl (fun m hm=>l5bad_q) ?_))
    |refine a_n ?_
    |(refine k_V ?_;first|refine v_seq ?_|refine v_reg ?_|refine v_ret ?_|refine v_ct rfl ?_|(refine v_cn rfl (fun hb=>?_) (fun hb=>?_)<;>try(exfalso;omega)))
    |refine s_r ?_
    |refine sk_zero ?_
    |refine sk_succ ?_
    |refine wk_nil ?_
    |refine wk_cons ?_)
   all_goals exact fa_r (fun _ _=>rfl) (Pm.ent pmt) ⟨x,rfl,rfl,rfl⟩
  ·repeat' (first
    |(refine k_L ?_;first|refine a_p rfl ?_|(refine k_g ?_;refine a_gy rfl rfl ?_)|(refine k_l ?_;first|refine a_l rfl (by exact rd_t (rd_h (rd_sl (fun _=>rfl) gw rfl))) ?_|refine g_l rfl ?_)|(refine k_i ?_;refine g_i rfl rfl ?_)|(refine k_st ?_;refine g_sw rfl rfl rfl rfl (Nat.le_of_ble_eq_true rfl) ?_)|(refine k_al ?_;refine a_al ?_)|(refine k_bx ?_;refine a_bx rfl rfl ?_)|(refine k_c ?_;refine a_cq rfl (fun m hm=>l5bad_q) ?_))
    |refine a_n ?_
    |(refine k_V ?_;first|refine v_seq ?_|refine v_reg ?_|refine v_ret ?_|refine v_ct rfl ?_|(refine v_cn rfl (fun hb=>?_) (fun hb=>?_)<;>try(exfalso;omega)))
    |refine s_r ?_
    |refine sk_zero ?_
    |refine sk_succ ?_
    |refine wk_nil ?_
    |refine wk_cons ?_)
   all_goals exact fa_r (fun _ _=>rfl) (Pm.ent pmt) ⟨x,rfl,rfl,rfl⟩
end Go.Proofs.YtcjmodomfilagaaGreat.E
