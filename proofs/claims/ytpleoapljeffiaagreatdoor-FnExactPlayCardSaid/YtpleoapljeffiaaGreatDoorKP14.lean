/- A part of the proof. Conditions: none. -/
import Derived.Test.YtpleoapljeffiaaGreatDoorKP13
set_option linter.unusedVariables false
set_option linter.unusedSimpArgs false
set_option maxHeartbeats 8000000
set_option maxRecDepth 100000
namespace Go.Proofs.YtpleoapljeffiaaGreatDoor.E
open Go
open Classical
theorem unit1_a{a:Nat}{x:HX}(h:Sound x.H)(hph:x.H.phase=1):FnA Tryz.prog 170 [ptr a] (hp a x) (fun v As=>∃z:HX,As=hp a z∧z.H=x.H.rootsU):=by
 obtain⟨q1,q2,q3⟩:=sound_gray h
 have hl:=x.len
 have hnc:x.hdr.nc=x.xs.length:=rfl
 have hph':x.hdr.phase=1:=hph
 have hhd:x.hdr.hand=x.H.hand:=rfl
 have h0:=h.r1.hand
 refine fnA_of (fun h=>fn170 (by simp) h) ?_
 unfold Heap.rootsU
 by_cases hh:x.H.hand=x.H.cells.length
 ·rw[if_pos hh]
  repeat' (first
   |(refine k_L ?_;first|refine a_p rfl ?_|(refine k_l ?_;refine g_l rfl ?_)|(refine g_c rfl (enter_a (x:=x)) (fun v As' hq=>?_);subst hq))
   |refine a_n ?_
   |(refine k_V ?_;first|refine v_seq ?_|refine v_reg ?_|refine v_bs ?_|refine v_ret ?_|(refine v_cd rfl (fun hb=>?_) (fun hb=>?_)<;>try(exfalso;omega)))
   |refine s_r ?_
   |refine b_r ?_)
  exact fa_r (fun _ _=>rfl) (Pm.ent (fin (x.enter 2))) ⟨_,rfl,enter_H⟩
 ·rw[if_neg hh]
  obtain⟨k,hk⟩:=Int.eq_ofNat_of_zero_le h0.1
  have hk':x.hdr.hand=k:=hk
  obtain⟨y,gy,gc⟩:=HX.at (x:=x) (i:=k) (by omega)
  have gk:=HX.gc gy
  have gy':x.xs[x.hdr.hand.toNat]?=some y:=by rw[hk'];exact gy
  rw[hk,gk]
  by_cases hr:Root y.c
  ·rw[if_pos hr]
   repeat' (first
    |(refine k_L ?_;first|refine a_p rfl ?_|(refine k_l ?_;refine g_l rfl ?_)|(refine k_i ?_;refine g_i rfl rfl ?_)|(refine k_ls ?_;refine g_ls rfl ?_)|(refine k_q ?_;refine a_q rfl (fun m hm=>qt_e (root_q (y:=y)) (congrArg Value.bool (decide_eq_true hr))) ?_))
    |refine a_n ?_
    |(refine k_V ?_;first|refine v_seq ?_|refine v_reg ?_|refine v_dreg ?_|refine v_bs ?_|refine v_skip ?_|refine v_ct rfl ?_|(refine v_cd rfl (fun hb=>?_) (fun hb=>?_)<;>try(exfalso;omega))))
   rw[hk']
   refine g_c rfl (shadeH_a (x:=x) (i:=k) (by omega) q1) (fun v As' hq=>?_)
   obtain⟨z,rfl,hz,hzr⟩:=hq
   obtain⟨s,_⟩:=shadeH_ok (H:=x.H) (i:=k) (by omega) (by rw[gk];exact hr.1)
   rw[←hz]at s
   have zh:z.hand=k:=by have:=s.hand;rw[hk]at this;exact this
   have zh':z.hdr.hand=k:=zh
   repeat' (first
    |(refine k_L ?_;first|(refine k_ad ?_;refine g_ad rfl rfl ?_)|refine a_p rfl ?_|(refine k_l ?_;refine g_l rfl ?_)|(refine k_st ?_;refine g_st rfl rfl rfl rfl ?_))
    |refine a_n ?_
    |(refine k_V ?_;refine v_reg ?_)
    |refine b_n ?_)
   refine fa_n (fun _ _=>rfl) (Pm.ent (fin {z with hand:=z.hand+1})) ⟨_,rfl,?_⟩
   show({z.H with hand:=z.hand+1}:Heap)=_
   rw[zh,hz];rfl
  ·rw[if_neg hr]
   repeat' (first
    |(refine k_L ?_;first|(refine k_ad ?_;refine g_ad rfl rfl ?_)|refine a_p rfl ?_|(refine k_l ?_;refine g_l rfl ?_)|(refine k_i ?_;refine g_i rfl rfl ?_)|(refine k_ls ?_;refine g_ls rfl ?_)|(refine k_st ?_;refine g_st rfl rfl rfl rfl ?_)|(refine k_q ?_;refine a_q rfl (fun m hm=>qt_e (root_q (y:=y)) (congrArg Value.bool (decide_eq_false hr))) ?_))
    |refine a_n ?_
    |(refine k_V ?_;first|refine v_seq ?_|refine v_reg ?_|refine v_dreg ?_|refine v_bs ?_|refine v_skip ?_|refine v_cf rfl ?_|(refine v_cd rfl (fun hb=>?_) (fun hb=>?_)<;>try(exfalso;omega)))
    |refine b_n ?_)
   refine fa_n (fun _ _=>rfl) (Pm.ent (fin {x with hand:=x.hand+1})) ⟨_,rfl,?_⟩
   show({x.H with hand:=x.hand+1}:Heap)=_
   rw[←hk];rfl
theorem unit2_a{a:Nat}{x:HX}(h:Sound x.H)(hph:x.H.phase=2):FnA Tryz.prog 170 [ptr a] (hp a x) (fun v As=>∃z:HX,As=hp a z∧z.H=x.H.markU):=by
 have hph':x.hdr.phase=2:=hph
 refine fnA_of (fun h=>fn170 (by simp) h) ?_
 repeat' (first
  |(refine k_L ?_;first|refine a_p rfl ?_|(refine k_l ?_;refine g_l rfl ?_)|(refine g_c rfl (mark_a h hph) (fun v As' hq=>?_);obtain⟨z,rfl,hz⟩:=hq))
  |refine a_n ?_
  |(refine k_V ?_;first|refine v_seq ?_|refine v_reg ?_|refine v_bs ?_|(refine v_cd rfl (fun hb=>?_) (fun hb=>?_)<;>try(exfalso;omega)))
  |refine b_n ?_)
 exact fa_n (fun _ _=>rfl) (Pm.ent (fin z)) ⟨_,rfl,hz⟩
theorem unit4_a{a:Nat}{x:HX}(h:Sound x.H)(hph:x.H.phase=4):FnA Tryz.prog 170 [ptr a] (hp a x) (fun v As=>∃z:HX,As=hp a z∧z.H=x.H.moveU):=by
 have hph':x.hdr.phase=4:=hph
 refine fnA_of (fun h=>fn170 (by simp) h) ?_
 repeat' (first
  |(refine k_L ?_;first|refine a_p rfl ?_|(refine k_l ?_;refine g_l rfl ?_)|(refine g_c rfl (move_a h hph) (fun v As' hq=>?_);obtain⟨z,rfl,hz⟩:=hq))
  |refine a_n ?_
  |(refine k_V ?_;first|refine v_seq ?_|refine v_reg ?_|refine v_bs ?_|(refine v_cd rfl (fun hb=>?_) (fun hb=>?_)<;>try(exfalso;omega)))
  |refine b_n ?_)
 exact fa_n (fun _ _=>rfl) (Pm.ent (fin z)) ⟨_,rfl,hz⟩
theorem unit3_a{a:Nat}{x:HX}(h:Sound x.H)(hph:x.H.phase=3):FnA Tryz.prog 170 [ptr a] (hp a x) (fun v As=>∃z:HX,As=hp a z∧z.H=x.H.sweepU):=by
 obtain⟨q1,q2,q3⟩:=sound_gray h
 have hl:=x.len
 have hnc:x.hdr.nc=x.xs.length:=rfl
 have hph':x.hdr.phase=3:=hph
 have hhd:x.hdr.hand=x.H.hand:=rfl
 have h0:=h.r1.hand
 refine fnA_of (fun h=>fn170 (by simp) h) ?_
 unfold Heap.sweepU
 by_cases hh:x.H.hand=x.H.cells.length
 ·rw[if_pos hh]
  repeat' (first
   |(refine k_L ?_;first|refine a_p rfl ?_|(refine k_l ?_;refine g_l rfl ?_)|(refine g_c rfl (enter_a (x:=x)) (fun v As' hq=>?_);subst hq))
   |refine a_n ?_
   |(refine k_V ?_;first|refine v_seq ?_|refine v_reg ?_|refine v_bs ?_|refine v_ret ?_|(refine v_cd rfl (fun hb=>?_) (fun hb=>?_)<;>try(exfalso;omega)))
   |refine s_r ?_
   |refine b_r ?_)
  exact fa_r (fun _ _=>rfl) (Pm.ent (fin (x.enter 4))) ⟨_,rfl,enter_H⟩
 ·rw[if_neg hh]
  obtain⟨k,hk⟩:=Int.eq_ofNat_of_zero_le h0.1
  have hk':x.hdr.hand=k:=hk
  obtain⟨y,gy,gc⟩:=HX.at (x:=x) (i:=k) (by omega)
  have gk:=HX.gc gy
  have gy':x.xs[x.hdr.hand.toNat]?=some y:=by rw[hk'];exact gy
  have hpl:=h.r2.pl (List.mem_of_getElem? gc)
  have hus:=h.r3
  have hnn:=pairsN_nonneg x.H.cells
  have hun:=pairsN_units h.r2
  have hrm:=h.r1.room
  unfold R3 at hus
  have hud:x.hdr.used=x.H.used:=rfl
  have hyu:y.c.units≤201∧0≤y.c.units:=by unfold Cell.units;split<;>omega
  rw[hk,gk]
  repeat' (first
   |(refine k_L ?_;first|(refine k_ad ?_;refine g_ad rfl rfl ?_)|(refine k_su ?_;refine g_su rfl rfl ?_)|refine a_p rfl ?_|(refine k_g ?_;first|refine a_gy rfl rfl ?_|refine a_gn rfl rfl ?_|(refine a_gd rfl (fun hb=>?_) (fun hb=>?_)<;>try(exfalso;omega)))|(refine k_l ?_;refine g_l rfl ?_)|(refine k_i ?_;refine g_i rfl rfl ?_)|(refine k_ls ?_;refine g_ls rfl ?_)|(refine k_st ?_;refine g_st rfl rfl rfl rfl ?_)|(refine k_q ?_;refine a_q rfl (fun m hm=>units_q (y:=y) (by omega)) ?_)|(refine a_c0 CS.zero gy' rfl rfl rfl rfl rfl rfl rfl ?_))
   |refine a_n ?_
   |(refine k_V ?_;first|refine v_seq ?_|refine v_reg ?_|refine v_dreg ?_|refine v_bs ?_|refine v_skip ?_|refine v_cf rfl ?_|(refine v_cd rfl (fun hb=>?_) (fun hb=>?_)<;>try(exfalso;omega)))
   |refine b_n ?_)
  ·refine fa_n (fun _ _=>rfl) (Pm.ent (fin {x with used:=x.used-y.c.units,xs:=x.xs.set x.hdr.hand.toNat CS.zero,hand:=x.hand+1})) ⟨_,rfl,?_⟩
   have eu:y.c.units=1+y.c.pairs.length:=by unfold Cell.units;rw[if_pos (by assumption)]
   rw[if_pos ⟨by assumption,by assumption⟩]
   show({x.H with used:=x.used-y.c.units,cells:=(x.xs.set x.hdr.hand.toNat CS.zero).map (·.c),hand:=x.hand+1}:Heap)=_
   rw[eu,List.map_set,hk',show x.hand=k from hk]
   rfl
  all_goals refine fa_n (fun _ _=>rfl) (Pm.ent (fin {x with xs:=x.xs.set x.hdr.hand.toNat (y.s_color 0),hand:=x.hand+1})) ⟨_,rfl,?_⟩
  all_goals rw[if_neg (fun h=>by first|exact absurd h.1 (by assumption)|exact absurd h.2 (by assumption))]
  all_goals show({x.H with cells:=(x.xs.set x.hdr.hand.toNat (y.s_color 0)).map (·.c),hand:=x.hand+1}:Heap)=_
  all_goals rw[List.map_set,hk',show x.hand=k from hk]
  all_goals rfl
theorem unit5_a{a:Nat}{x:HX}(h:Sound x.H)(hph:x.H.phase=5):FnA Tryz.prog 170 [ptr a] (hp a x) (fun v As=>∃z:HX,As=hp a z∧z.H=x.H.mendU):=by
 obtain⟨q1,q2,q3⟩:=sound_gray h
 have hl:=x.len
 have hnc:x.hdr.nc=x.xs.length:=rfl
 have hph':x.hdr.phase=5:=hph
 have hhd:x.hdr.hand=x.H.hand:=rfl
 have hsb:x.hdr.sub=x.H.sub:=rfl
 have h0:=h.r1.hand
 have hs0:=h.r1.sub
 refine fnA_of (fun h=>fn170 (by simp) h) ?_
 unfold Heap.mendU
 by_cases hh:x.H.hand=x.H.cells.length
 ·rw[if_pos hh]
  repeat' (first
   |(refine k_L ?_;first|refine a_p rfl ?_|(refine k_l ?_;refine g_l rfl ?_)|(refine g_c rfl (enter_a (x:=x)) (fun v As' hq=>?_);subst hq))
   |refine a_n ?_
   |(refine k_V ?_;first|refine v_seq ?_|refine v_reg ?_|refine v_bs ?_|refine v_ret ?_|(refine v_cd rfl (fun hb=>?_) (fun hb=>?_)<;>try(exfalso;omega)))
   |refine s_r ?_
   |refine b_r ?_)
  exact fa_r (fun _ _=>rfl) (Pm.ent (fin (x.enter 6))) ⟨_,rfl,enter_H⟩
 ·rw[if_neg hh]
  obtain⟨k,hk⟩:=Int.eq_ofNat_of_zero_le h0.1
  have hk':x.hdr.hand=k:=hk
  obtain⟨y,gy,gc⟩:=HX.at (x:=x) (i:=k) (by omega)
  have gk:=HX.gc gy
  have gy':x.xs[x.hdr.hand.toNat]?=some y:=by rw[hk'];exact gy
  have hpl:=h.r2.pl (List.mem_of_getElem? gc)
  rw[hk,gk]
  by_cases hlt:x.H.sub<y.c.pairs.length
  ·obtain⟨s,hs⟩:=Int.eq_ofNat_of_zero_le hs0.1
   have hs':x.hdr.sub=s:=hs
   obtain⟨p,gp⟩:∃p,y.c.pairs[s]?=some p:=⟨_,List.getElem?_eq_getElem (by omega)⟩
   have gp':y.c.pairs[x.hdr.sub.toNat]?=some p:=by rw[hs'];exact gp
   rw[hs,show((s:Int)).toNat=s by omega,gp]
   simp only
   obtain⟨f1,f2,_⟩:=h.r4.pairs k y.c gc s p gp
   have gy1:(x.xs.set x.hdr.hand.toNat (y.s_pair x.hdr.sub.toNat (p.s_key (x.hs.H.lead p.key))))[x.hdr.hand.toNat]?=some (y.s_pair x.hdr.sub.toNat (p.s_key (x.hs.H.lead p.key))):=by
    rw[List.getElem?_set,if_pos rfl,if_pos (List.getElem?_eq_some_iff.1 gy').1]
   have gp1:(y.s_pair x.hdr.sub.toNat (p.s_key (x.hs.H.lead p.key))).c.pairs[x.hdr.sub.toNat]?=some (p.s_key (x.hs.H.lead p.key)):=by
    show(y.c.pairs.set x.hdr.sub.toNat _)[x.hdr.sub.toNat]?=_
    rw[List.getElem?_set,if_pos rfl,if_pos (List.getElem?_eq_some_iff.1 gp').1]
   repeat' (first
    |(refine k_L ?_;first|refine a_p rfl ?_|(refine k_l ?_;refine g_l rfl ?_)|(refine k_i ?_;refine g_i rfl rfl ?_)|(refine k_ls ?_;refine g_ls rfl ?_)|(refine k_st ?_;refine g_st rfl rfl rfl rfl ?_)|(refine k_q ?_;first|refine a_q rfl (fun m hm=>lead_q (x:=x.hs) (w:=p.key) (ph_g (x:=x) hm) (fun hk=>f1.at hk)) ?_|refine a_q rfl (fun m hm=>lead_q (x:=x.hs) (w:=p.val) (ph_g (x:=x) hm) (fun hk=>f2.at hk)) ?_))
    |refine a_n ?_
    |(refine k_V ?_;first|refine v_seq ?_|refine v_reg ?_|refine v_dreg ?_|refine v_bs ?_|refine v_skip ?_|(refine v_cd rfl (fun hb=>?_) (fun hb=>?_)<;>try(exfalso;omega))))
   refine a_st rfl rfl rfl rfl (up_t (up_t (up_h (u_val (y:=y.s_pair x.hdr.sub.toNat (p.s_key (x.hs.H.lead p.key))) (i:=x.hdr.hand.toNat) (k:=x.hdr.sub.toNat) (p:=p.s_key (x.hs.H.lead p.key)) (w:=x.hs.H.lead p.val) gy1 gp1)))) ?_
   repeat' (first
    |(refine k_L ?_;first|(refine k_ad ?_;refine g_ad rfl rfl ?_)|refine a_p rfl ?_|(refine k_l ?_;refine g_l rfl ?_)|(refine k_st ?_;refine g_st rfl rfl rfl rfl ?_))
    |refine a_n ?_
    |(refine k_V ?_;first|refine v_seq ?_|refine v_reg ?_|refine v_ret ?_)
    |refine s_r ?_
    |refine b_r ?_)
   refine fa_r (fun _ _=>rfl) (Pm.ent (fin ({x with xs:=(x.xs.set x.hdr.hand.toNat (y.s_pair x.hdr.sub.toNat (p.s_key (x.hs.H.lead p.key)))).set x.hdr.hand.toNat ((y.s_pair x.hdr.sub.toNat (p.s_key (x.hs.H.lead p.key))).s_pair x.hdr.sub.toNat ((p.s_key (x.hs.H.lead p.key)).s_val (x.hs.H.lead p.val))),sub:=x.sub+1}:HX))) ⟨_,rfl,?_⟩
   show({x.H with cells:=(((x.xs.set x.hdr.hand.toNat (y.s_pair x.hdr.sub.toNat (p.s_key (x.hs.H.lead p.key)))).set x.hdr.hand.toNat ((y.s_pair x.hdr.sub.toNat (p.s_key (x.hs.H.lead p.key))).s_pair x.hdr.sub.toNat ((p.s_key (x.hs.H.lead p.key)).s_val (x.hs.H.lead p.val))))).map (·.c),sub:=x.sub+1}:Heap)=_
   rw[List.set_set,List.map_set,hk',hs',show x.sub=s from hs]
   unfold CS.s_pair Pair.s_key Pair.s_val
   simp only[Int.toNat_natCast,List.set_set]
   rw[hk]
   rfl
  ·have gp:y.c.pairs[x.H.sub.toNat]?=none:=List.getElem?_eq_none (by omega)
   rw[gp]
   simp only
   repeat' (first
    |(refine k_L ?_;first|(refine k_ad ?_;refine g_ad rfl rfl ?_)|refine a_p rfl ?_|(refine k_l ?_;refine g_l rfl ?_)|(refine k_i ?_;refine g_i rfl rfl ?_)|(refine k_st ?_;refine g_st rfl rfl rfl rfl ?_))
    |refine a_n ?_
    |(refine k_V ?_;first|refine v_seq ?_|refine v_reg ?_|refine v_dreg ?_|refine v_bs ?_|refine v_skip ?_|(refine v_cd rfl (fun hb=>?_) (fun hb=>?_)<;>try(exfalso;omega)))
    |refine b_n ?_)
   refine fa_n (fun _ _=>rfl) (Pm.ent (fin ({x with hand:=x.hand+1,sub:=0}:HX))) ⟨_,rfl,?_⟩
   show({x.H with hand:=x.hand+1,sub:=0}:Heap)=_
   rw[show x.hand=k from hk]
theorem unit6_a{a:Nat}{x:HX}(h:Sound x.H)(hph:x.H.phase=6):FnA Tryz.prog 170 [ptr a] (hp a x) (fun v As=>∃z:HX,As=hp a z∧z.H=x.H.closeU):=by
 obtain⟨q1,q2,q3⟩:=sound_gray h
 have hl:=x.len
 have hnc:x.hdr.nc=x.xs.length:=rfl
 have hph':x.hdr.phase=6:=hph
 have hhd:x.hdr.hand=x.H.hand:=rfl
 have h0:=h.r1.hand
 have hrd:=h.r1.rounds
 have hrd':x.hdr.rounds=x.H.rounds:=rfl
 have hre:(x.enter 0).hdr.rounds=x.H.rounds:=rfl
 refine fnA_of (fun h=>fn170 (by simp) h) ?_
 refine v_kn (p:=x.xs.length≤x.cd.cap) (kn_t (kn_t (kn_h kc_cl))) (fun hcap=>?_)
 have hcap':x.hdr.cd.cap=x.cd.cap:=rfl
 unfold Heap.closeU
 by_cases hh:x.H.hand=0
 ·rw[if_pos hh]
  repeat' (first
   |(refine k_L ?_;first|(refine k_ad ?_;refine g_ad rfl rfl ?_)|refine a_p rfl ?_|(refine k_l ?_;refine g_l rfl ?_)|(refine k_st ?_;refine g_st rfl rfl rfl rfl ?_)|(refine g_c rfl (enter_a (x:=x)) (fun v As' hq=>?_);subst hq))
   |refine a_n ?_
   |(refine k_V ?_;first|refine v_seq ?_|refine v_reg ?_|refine v_bs ?_|refine v_ret ?_|(refine v_cd rfl (fun hb=>?_) (fun hb=>?_)<;>try(exfalso;omega)))
   |refine s_r ?_
   |refine b_r ?_)
  refine fa_r (fun _ _=>rfl) (Pm.ent (fin {x.enter 0 with rounds:=if 1000000000<x.rounds+1 then 1000000000 else x.rounds+1})) ⟨_,rfl,?_⟩
  show({(x.enter 0).H with rounds:=if 1000000000<x.rounds+1 then 1000000000 else x.rounds+1}:Heap)=_
  rw[enter_H]
  have:(if 1000000000<x.rounds+1 then 1000000000 else x.rounds+1)=if x.H.rounds<1000000000 then x.H.rounds+1 else x.H.rounds:=by
   rw[show x.rounds=x.H.rounds from rfl]
   by_cases c:x.H.rounds<1000000000
   ·rw[if_pos c,if_neg (by omega)]
   ·rw[if_neg c,if_pos (by omega)];omega
  rw[this]
 ·rw[if_neg hh]
  obtain⟨k,hk⟩:=Int.eq_ofNat_of_zero_le (show 0≤x.H.hand-1 by omega)
  have hk':x.hdr.hand-1=k:=hk
  obtain⟨y,gy,gc⟩:=HX.at (x:=x) (i:=k) (by omega)
  have gk:=HX.gc gy
  have gy':x.xs[(x.hdr.hand-1).toNat]?=some y:=by rw[hk'];exact gy
  have gz:(x.xs.set (x.hdr.hand-1).toNat CS.zero)[(x.hdr.hand-1).toNat]?=some CS.zero:=by
   rw[List.getElem?_set,if_pos rfl,if_pos (List.getElem?_eq_some_iff.1 gy').1]
  have hsh:(x.hdr.s_hand (x.hdr.hand-1)).hand=x.hdr.hand-1:=rfl
  have ghand:x.H.getC (x.H.hand-1)=y.c:=by rw[hk];exact gk
  have eA:y.c.state=2→x.H.closeA=(x.xs.set (x.hdr.hand-1).toNat CS.zero).map (·.c):=fun e=>by
   unfold Heap.closeA
   rw[ghand,if_pos e,List.map_set];rfl
  have eB:y.c.state≠2→x.H.closeA=x.H.cells:=fun e=>by
   unfold Heap.closeA
   rw[ghand,if_neg e]
  have sA:y.c.state=2→(getL x.H.closeA (x.H.hand-1)).state=0:=fun e=>by
   rw[eA e,List.map_set,getL_set (by rw[List.length_map];omega),if_pos (by rw[hhd])];rfl
  have sB:y.c.state≠2→(getL x.H.closeA (x.H.hand-1)).state=y.c.state:=fun e=>by
   rw[eB e,←getC_L,ghand]
  repeat' (first
   |(refine k_L ?_;first|(refine k_su ?_;refine g_su rfl rfl ?_)|refine a_p rfl ?_|(refine k_g ?_;first|refine a_gy rfl rfl ?_|refine a_gn rfl rfl ?_|(refine a_gd rfl (fun hb=>?_) (fun hb=>?_)<;>try(exfalso;omega)))|(refine k_l ?_;refine g_l rfl ?_)|(refine k_i ?_;refine g_i rfl rfl ?_)|(refine k_st ?_;refine g_st rfl rfl rfl rfl ?_)|(refine a_c0 CS.zero gy' rfl rfl rfl rfl rfl rfl rfl ?_)|(refine g_tk rfl rfl ?_))
   |refine a_n ?_
   |(refine k_V ?_;first|refine v_seq ?_|refine v_reg ?_|refine v_dreg ?_|refine v_bs ?_|refine v_skip ?_|refine v_ct rfl ?_|refine v_cf rfl ?_|(refine v_cd rfl (fun hb=>?_) (fun hb=>?_)<;>try(exfalso;omega)))
   |refine b_n ?_)
  ·have hs2:y.c.state=2:=by assumption
   have hn:x.H.hand=x.H.cells.length:=by omega
   rw[if_pos ⟨hn,sA hs2⟩,eA hs2]
   refine fa_n (As':=hp a ({x with hand:=x.hand-1,xs:=(x.xs.set (x.hdr.hand-1).toNat CS.zero).take ((x.hdr.nc:Int)-1).toNat}:HX)) (fun _ _=>rfl) ?_ ⟨_,rfl,?_⟩
   ·refine(cl_take (k:=((x.hdr.nc:Int)-1).toNat) (by rw[List.length_set];omega)).trans ?_
    exact Pm.ent (fin _ (h2:=by rw[List.length_take,List.length_set];show((x.hdr.nc:Int)-1).toNat=_;omega))
   ·show({x.H with hand:=x.hand-1,cells:=(((x.xs.set (x.hdr.hand-1).toNat CS.zero).take ((x.hdr.nc:Int)-1).toNat).map (·.c))}:Heap)=_
    rw[List.map_take,show((x.hdr.nc:Int)-1).toNat=(x.H.hand-1).toNat by omega]
    rfl
  ·have hs2:y.c.state=2:=by assumption
   rw[if_neg (fun h=>by have:=h.1;omega),eA hs2]
   exact fa_n (fun _ _=>rfl) (Pm.ent (fin {x with hand:=x.hand-1,xs:=x.xs.set (x.hdr.hand-1).toNat CS.zero})) ⟨_,rfl,rfl⟩
  ·have hs2:y.c.state≠2:=by assumption
   have hs0:y.c.state=0:=by assumption
   have hn:x.H.hand=x.H.cells.length:=by omega
   rw[if_pos ⟨hn,by rw[sB hs2];exact hs0⟩,eB hs2]
   refine fa_n (As':=hp a ({x with hand:=x.hand-1,xs:=x.xs.take ((x.hdr.nc:Int)-1).toNat}:HX)) (fun _ _=>rfl) ?_ ⟨_,rfl,?_⟩
   ·refine Ent.trans (Pm.ent (As1:=[clA x.cd x.xs,hdA a ((x.hdr.s_hand (x.hdr.hand-1)).s_cd x.cd ((x.hdr.nc:Int)-1).toNat),slA 3 wv x.rd x.regs,slA 1 iv x.gd x.gray]) pmt) ?_
    refine(cl_take (k:=((x.hdr.nc:Int)-1).toNat) (by omega)).trans ?_
    exact Pm.ent (fin _ (h2:=by rw[List.length_take];show((x.hdr.nc:Int)-1).toNat=_;omega))
   ·show({x.H with hand:=x.hand-1,cells:=((x.xs.take ((x.hdr.nc:Int)-1).toNat).map (·.c))}:Heap)=_
    rw[List.map_take,show((x.hdr.nc:Int)-1).toNat=(x.H.hand-1).toNat by omega]
    rfl
  ·have hs2:y.c.state≠2:=by assumption
   have hs0:¬y.c.state=0:=by assumption
   rw[if_neg (fun h=>hs0 (by have:=h.2;rw[sB hs2]at this;exact this)),eB hs2]
   exact fa_n (fun _ _=>rfl) (Pm.ent (fin {x with hand:=x.hand-1})) ⟨_,rfl,rfl⟩
  ·have hs2:y.c.state≠2:=by assumption
   rw[if_neg (fun h=>by have:=h.1;omega),eB hs2]
   exact fa_n (fun _ _=>rfl) (Pm.ent (fin {x with hand:=x.hand-1})) ⟨_,rfl,rfl⟩
theorem unit_a{a:Nat}{x:HX}(h:Sound x.H)(hph:x.H.phase≠0):FnA Tryz.prog 170 [ptr a] (hp a x) (fun v As=>∃z:HX,As=hp a z∧z.H=x.H.unitH):=by
 have h5:=h.r1.phase
 unfold Heap.unitH
 rcases(by omega:x.H.phase=1∨x.H.phase=2∨x.H.phase=3∨x.H.phase=4∨x.H.phase=5∨x.H.phase=6)with e|e|e|e|e|e
 ·rw[if_pos e];exact unit1_a h e
 ·rw[if_neg (by omega),if_pos e];exact unit2_a h e
 ·rw[if_neg (by omega),if_neg (by omega),if_pos e];exact unit3_a h e
 ·rw[if_neg (by omega),if_neg (by omega),if_neg (by omega),if_pos e];exact unit4_a h e
 ·rw[if_neg (by omega),if_neg (by omega),if_neg (by omega),if_neg (by omega),if_pos e];exact unit5_a h e
 ·rw[if_neg (by omega),if_neg (by omega),if_neg (by omega),if_neg (by omega),if_neg (by omega),if_pos e];exact unit6_a h e
def HX.ph(x:HX)(p hd:Int):HX:={x with phase:=p,hand:=hd,sub:=0}
theorem l3phase_a{a:Nat}{x:HX}{p hd:Int}:FnA Tryz.prog 135 [ptr a,.int .i64 p,.int .i64 hd] (hp a x) (fun v As=>As=hp a (x.ph p hd)):=by
 refine fnA_of (fun h=>fn135 (by simp) h) ?_
 repeat' (first
  |(refine k_L ?_;first|refine a_p rfl ?_|(refine k_st ?_;refine g_st rfl rfl rfl rfl ?_))
  |refine a_n ?_
  |(refine k_V ?_;first|refine v_seq ?_|refine v_reg ?_))
 exact fa_n (fun _ _=>rfl) (Pm.ent (fin (x.ph p hd))) rfl
theorem ph_H{x:HX}{p hd:Int}(e:hd=if p=6 then(x.H.cells.length:Int)else 0):(x.ph p hd).H=x.H.enterH p:=by
 subst e;rfl
theorem l3begin_a{a:Nat}{x:HX}:FnA Tryz.prog 103 [ptr a] (hp a x) (fun v As=>As=hp a (x.ph 1 0)):=by
 refine fnA_of (fun h=>fn103 (by simp) h) ?_
 repeat' (first
  |(refine k_L ?_;first|refine a_p rfl ?_|(refine g_c rfl (l3phase_a (x:=x)) (fun v As' hq=>?_);subst hq))
  |refine a_n ?_
  |(refine k_V ?_;refine v_reg ?_))
 exact fa_n (fun _ _=>rfl) (Pm.ent (fin (x.ph 1 0))) rfl
theorem shadeW_at{H:Heap}{k:Nat}:H.shadeW ⟨2,0,(k:Int)⟩=H.shadeH k:=by unfold Heap.shadeW;rw[if_pos rfl];rfl
theorem root_last{H:Heap}(h:R2 H){i:Nat}{c:Cell}(hc:H.cells[i]?=some c):Root c↔c.last=1∨c.last=2:=by
 constructor
 ·exact fun h=>h.2
 ·intro hl
  refine⟨?_,hl⟩
  rcases Decidable.em (c.state=1)with e|e
  ·exact e
  ·have:=(h.bare hc e).2.2.1;omega
theorem l3roots_a{a:Nat}{x:HX}(h:Sound x.H)(hph:x.H.phase=1):FnA Tryz.prog 136 [ptr a] (hp a x) (fun v As=>∃z:HX,As=hp a z∧z.H=x.H.rootsU):=by
 obtain⟨q1,q2,q3⟩:=sound_gray h
 have hl:=x.len
 have hnc:x.hdr.nc=x.xs.length:=rfl
 have hhd:x.hdr.hand=x.H.hand:=rfl
 have h0:=h.r1.hand
 refine fnA_of (fun h=>fn136 (by simp) h) ?_
 unfold Heap.rootsU
 by_cases hh:x.H.hand=x.H.cells.length
 ·rw[if_pos hh]
  repeat' (first
   |(refine k_L ?_;first|refine a_p rfl ?_|(refine k_l ?_;refine g_l rfl ?_)|(refine g_c rfl (l3phase_a (x:=x)) (fun v As' hq=>?_);subst hq))
   |refine a_n ?_
   |(refine k_V ?_;first|refine v_seq ?_|refine v_reg ?_|refine v_dreg ?_|refine v_ret ?_|(refine v_cd rfl (fun hb=>?_) (fun hb=>?_)<;>try(exfalso;omega)))
   |refine s_r ?_)
  exact fa_r (fun _ _=>rfl) (Pm.ent (fin (x.ph 2 0))) ⟨_,rfl,ph_H rfl⟩
 ·rw[if_neg hh]
  obtain⟨k,hk⟩:=Int.eq_ofNat_of_zero_le h0.1
  have hk':x.hdr.hand=k:=hk
  obtain⟨y,gy,gc⟩:=HX.at (x:=x) (i:=k) (by omega)
  have gk:=HX.gc gy
  have gy':x.xs[x.hdr.hand.toNat]?=some y:=by rw[hk'];exact gy
  have hrl:=root_last h.r2 gc
  rw[hk,gk]
  by_cases hr:y.c.last=1∨y.c.last=2
  ·rw[if_pos (hrl.2 hr)]
   repeat' (first
    |(refine k_L ?_;first|refine a_p rfl ?_|(refine k_g ?_;first|refine a_gy rfl rfl ?_|refine a_gn rfl rfl ?_|(refine a_gd rfl (fun hb=>?_) (fun hb=>?_)<;>try(exfalso;omega)))|(refine k_l ?_;refine g_l rfl ?_)|(refine k_i ?_;refine g_i rfl rfl ?_)|(refine k_ls ?_;refine g_ls rfl ?_)|(refine k_st ?_;refine g_sw rfl rfl rfl rfl (Nat.le_of_ble_eq_true rfl) ?_)|(refine k_al ?_;refine a_al ?_))
    |refine a_n ?_
    |(refine k_V ?_;first|refine v_seq ?_|refine v_reg ?_|refine v_dreg ?_|refine v_skip ?_|refine v_ct rfl ?_|(refine v_cd rfl (fun hb=>?_) (fun hb=>?_)<;>try(exfalso;omega)))
    |refine sk_zero ?_
    |refine sk_succ ?_
    |refine wk_nil ?_
    |refine wk_cons ?_)
   all_goals rw[hk']
   all_goals refine g_c rfl (l3shade_a (x:=x) (w:=⟨2,0,(k:Int)⟩) (fun _=>⟨by simp,by show(k:Int)<_;omega⟩) q1) (fun v As' hq=>?_)
   all_goals obtain⟨z,rfl,rfl,hz,hzr⟩:=hq
   all_goals rw[shadeW_at]at hz
   all_goals obtain⟨s,_⟩:=shadeH_ok (H:=x.H) (i:=k) (by omega) (by rw[gk];exact(hrl.2 hr).1)
   all_goals rw[←hz]at s
   all_goals have zh:z.hand=k:=by have:=s.hand;rw[hk]at this;exact this
   all_goals have zh':z.hdr.hand=k:=zh
   ·repeat' (first
     |(refine k_L ?_;first|(refine k_ad ?_;refine g_ad rfl rfl ?_)|refine a_p rfl ?_|(refine k_l ?_;refine g_l rfl ?_)|(refine k_st ?_;refine g_st rfl rfl rfl rfl ?_))
     |refine a_n ?_
     |(refine k_V ?_;refine v_reg ?_))
    refine fa_n (fun _ _=>rfl) (Pm.ent (fin {z with hand:=z.hand+1})) ⟨_,rfl,?_⟩
    show({z.H with hand:=z.hand+1}:Heap)=_
    rw[zh,hz]
    rfl
   ·repeat' (first
     |(refine k_L ?_;first|(refine k_ad ?_;refine g_ad rfl rfl ?_)|refine a_p rfl ?_|(refine k_l ?_;refine g_l rfl ?_)|(refine k_st ?_;refine g_st rfl rfl rfl rfl ?_))
     |refine a_n ?_
     |(refine k_V ?_;refine v_reg ?_))
    refine fa_n (fun _ _=>rfl) (Pm.ent (fin {z with hand:=z.hand+1})) ⟨_,rfl,?_⟩
    show({z.H with hand:=z.hand+1}:Heap)=_
    rw[zh,hz]
    rfl
  ·rw[if_neg (fun h=>hr (hrl.1 h))]
   repeat' (first
    |(refine k_L ?_;first|(refine k_ad ?_;refine g_ad rfl rfl ?_)|refine a_p rfl ?_|(refine k_g ?_;first|refine a_gy rfl rfl ?_|(refine a_gd rfl (fun hb=>?_) (fun hb=>?_)<;>try(exfalso;omega)))|(refine k_l ?_;refine g_l rfl ?_)|(refine k_i ?_;refine g_i rfl rfl ?_)|(refine k_ls ?_;refine g_ls rfl ?_)|(refine k_st ?_;first|refine g_st rfl rfl rfl rfl ?_|refine g_sw rfl rfl rfl rfl (Nat.le_of_ble_eq_true rfl) ?_)|(refine k_al ?_;refine a_al ?_))
    |refine a_n ?_
    |(refine k_V ?_;first|refine v_seq ?_|refine v_reg ?_|refine v_dreg ?_|refine v_skip ?_|(refine v_cd rfl (fun hb=>?_) (fun hb=>?_)<;>try(exfalso;omega)))
    |refine sk_zero ?_
    |refine sk_succ ?_
    |refine wk_nil ?_
    |refine wk_cons ?_)
   refine fa_n (fun _ _=>rfl) (Pm.ent (fin {x with hand:=x.hand+1})) ⟨_,rfl,?_⟩
   show({x.H with hand:=x.hand+1}:Heap)=_
   rw[←hk];rfl
theorem shadeW_sub{H:Heap}{n:Int}{w:Word}:({H with sub:=n}:Heap).shadeW w={H.shadeW w with sub:=n}:=by
 unfold Heap.shadeW
 split
 ·unfold Heap.shadeH
  have e:(Marking {H with sub:=n}∧(Heap.getC {H with sub:=n} w.at_.toNat).color=0)↔(Marking H∧(H.getC w.at_.toNat).color=0):=Iff.rfl
  by_cases c:Marking H∧(H.getC w.at_.toNat).color=0
  ·rw[if_pos c,if_pos (e.2 c)];rfl
  ·rw[if_neg c,if_neg (fun h=>c (e.1 h))]
 ·rfl
theorem l3mark_a{a:Nat}{x:HX}(h:Sound x.H)(hph:x.H.phase=2):FnA Tryz.prog 137 [ptr a] (hp a x) (fun v As=>∃z:HX,As=hp a z∧z.H=x.H.markU):=by
 obtain⟨q1,q2,q3⟩:=sound_gray h
 have hl:=x.len
 have hnc:x.hdr.nc=x.xs.length:=rfl
 have hng:x.hdr.ng=x.gray.length:=rfl
 have hgr:x.H.gray=x.gray:=rfl
 have hm:Marking x.H:=.inr hph
 refine fnA_of (fun h=>fn137 (by simp) h) ?_
 unfold Heap.markU
 cases hg:x.gray with
 |nil=>
  have hnz:x.hdr.ng=0:=by rw[hng,hg];rfl
  rw[hgr,hg]
  simp only
  have hr:=fun w hw=>reg_used h.r4 (w:=w) hw
  have hr':∀w,w∈x.H.regs→Formed x.H w∧(w.kind=2→(x.H.getC w.at_).state=1):=fun w hw=>⟨(hr w hw).1,fun hk=>((hr w hw).2 hk).1⟩
  repeat' (first
   |(refine k_L ?_;first|refine a_p rfl ?_|(refine k_l ?_;refine g_l rfl ?_))
   |refine a_n ?_
   |(refine k_V ?_;first|refine v_seq ?_|refine v_reg ?_|refine v_skip ?_|(refine v_cd rfl (fun hb=>?_) (fun hb=>?_)<;>try(exfalso;omega)))
   |refine s_n ?_)
  refine g_range x.regs.length (fun q:HX×Bool=>[(0,.v (ptr a)),(4,.v (.bool q.2)),(83,.v (.slice x.rd.a x.regs.length x.rd.cap))]) (fun q=>hp a q.1) (fun i q=>q.1.H=x.H.shadeL (x.regs.take i)∧q.1.rd=x.rd∧(q.2=true↔∃w,w∈x.regs.take i∧White x.H w)) ((x,false):HX×Bool) ⟨rfl,rfl,by simp⟩ (fun i q hi hv=>?_) (fun q hv=>?_)
  ·obtain⟨z,b⟩:=q
   obtain⟨v1,v2,v3⟩:=hv
   simp only at v1 v2 v3
   obtain⟨w,gw⟩:∃w,x.regs[i]?=some w:=⟨_,List.getElem?_eq_getElem hi⟩
   have hsub:∀v,v∈x.regs.take i→Formed x.H v∧(v.kind=2→(x.H.getC v.at_).state=1):=fun v hv=>hr' v (List.mem_of_mem_take hv)
   obtain⟨s,_⟩:=shadeL_ok _ _ hsub
   rw[←v1]at s
   have hw:=hr' w (List.mem_of_getElem? gw)
   have zr:z.regs=x.regs:=s.regs
   have zm:Marking z.H:=by unfold Marking at*;rw[s.phase];exact hm
   have gz:z.regs[i]?=some w:=by rw[zr];exact gw
   have hzg:=(sound_gray (s.sound h)).1
   have hsn:∀v,v∈x.regs.take i++[w]→Formed x.H v∧(v.kind=2→(x.H.getC v.at_).state=1):=fun v hv=>by
    rcases List.mem_append.1 hv with hv|hv
    ·exact hsub v hv
    ·simp at hv;subst hv;exact hw
   have hsw:=some_white hsn
   have htk:x.regs.take (i+1)=x.regs.take i++[w]:=by rw[List.take_add_one,gw];rfl
   rw[←v2]
   repeat' (first
    |(refine k_L ?_;first|refine a_p rfl ?_|(refine k_i ?_;refine g_i rfl rfl ?_)|(refine k_ls ?_;refine g_ls rfl ?_)|(refine k_st ?_;refine g_sw rfl rfl rfl rfl (Nat.le_of_ble_eq_true rfl) ?_)|(refine k_al ?_;refine a_al ?_)|(refine g_c rfl (l3shade_a (x:=z) (w:=w) (fun hk=>by have:=hw.1.at hk;rw[s.len];exact this) hzg) (fun v As' hq=>?_);obtain⟨u,rfl,rfl,hu,hur⟩:=hq))
    |refine a_n ?_
    |(refine k_V ?_;first|refine v_seq ?_|refine v_reg ?_|refine v_skip ?_|(refine v_cd rfl (fun hb=>?_) (fun hb=>?_)<;>try(exfalso;omega)))
    |refine sk_zero ?_
    |refine sk_succ ?_
    |refine wk_nil ?_
    |refine wk_cons ?_)
   ·refine r_nx ((u,true):HX×Bool) ⟨by rw[hu,htk,shadeL_snoc,v1],hur,?_⟩
    rw[htk]
    simp only[true_iff]
    exact hsw.2 (.inr (by rw[←v1];exact(show Marking z.H∧White z.H w by assumption).2))
   ·refine r_nx ((u,b):HX×Bool) ⟨by rw[hu,htk,shadeL_snoc,v1],hur,?_⟩
    rw[htk]
    refine v3.trans ⟨fun h=>hsw.2 (.inl h),fun h=>?_⟩
    rcases hsw.1 h with h|h
    ·exact h
    ·rw[←v1]at h;exact((show ¬(Marking z.H∧White z.H w) by assumption) ⟨zm,h⟩).elim
  ·obtain⟨z,b⟩:=q
   obtain⟨v1,v2,v3⟩:=hv
   simp only at v1 v2 v3
   rw[List.take_of_length_le (Nat.le_refl _)]at v1 v3
   cases b with
   |true=>
    repeat' (first
     |(refine k_L ?_;refine a_p rfl ?_)
     |refine a_n ?_
     |(refine k_V ?_;first|refine v_seq ?_|refine v_reg ?_|refine v_skip ?_|refine v_cf rfl ?_))
    exact fa_n (fun _ _=>rfl) (Pm.ent (fin z)) ⟨z,rfl,by rw[if_pos (show ∃w,w∈x.H.regs∧White x.H w from v3.1 rfl)];exact v1⟩
   |false=>
    have hno:¬∃w,w∈x.regs∧White x.H w:=fun h=>by have:=v3.2 h;cases this
    have hz:z.H=x.H:=by rw[v1];exact shadeL_no _ (fun w hw=>⟨(hr' w hw).1,fun h'=>hno ⟨w,hw,h'⟩⟩)
    repeat' (first
     |(refine k_L ?_;first|refine a_p rfl ?_|(refine g_c rfl (l3phase_a (x:=z)) (fun v As' hq=>?_);subst hq))
     |refine a_n ?_
     |(refine k_V ?_;first|refine v_seq ?_|refine v_reg ?_|refine v_ct rfl ?_))
    exact fa_n (fun _ _=>rfl) (Pm.ent (fin (z.ph 3 0))) ⟨_,rfl,by rw[if_neg (show ¬∃w,w∈x.H.regs∧White x.H w from hno)];exact(ph_H (x:=z) (p:=3) (hd:=0) rfl).trans (by rw[hz])⟩
 |cons g r=>
  rw[hgr,hg]
  simp only
  have hn1:x.hdr.ng=r.length+1:=by rw[hng,hg];rfl
  obtain⟨g1,g2,g3⟩:=h.r5.mark hm
  obtain⟨b0,b1,b2,b3⟩:=g2 g (by rw[hgr,hg];simp)
  obtain⟨y,gy,gc⟩:=HX.atI (x:=x) b0 (by omega)
  obtain⟨gn,hgn⟩:=Int.eq_ofNat_of_zero_le b0
  have gg:x.gray[(0:Int).toNat]?=some g:=by rw[hg];rfl
  have hs0:=h.r1.sub
  have hsub:x.hdr.sub=x.H.sub:=rfl
  rw[gc]
  by_cases hlt:x.H.sub<y.c.pairs.length
  ·obtain⟨p,gp⟩:∃p,y.c.pairs[x.H.sub.toNat]?=some p:=⟨_,List.getElem?_eq_getElem (by omega)⟩
   have gp':y.c.pairs[x.hdr.sub.toNat]?=some p:=gp
   rw[gp]
   simp only
   have hgg:x.H.gray=g::r:=by rw[hgr,hg]
   have gpc:(x.H.getC g).pairs[x.H.sub.toNat]?=some p:=by rw[gc];exact gp
   obtain⟨⟨k1,k2⟩,w1,w2⟩:=markP h hph hgg gpc
   obtain⟨s1,_⟩:=shadeW_ok k1 k2
   repeat' (first
    |(refine k_L ?_;first|(refine k_ad ?_;refine g_ad rfl rfl ?_)|refine a_p rfl ?_|(refine k_l ?_;refine g_l rfl ?_)|(refine k_i ?_;refine g_i rfl rfl ?_)|(refine k_ls ?_;refine g_ls rfl ?_)|(refine k_st ?_;first|refine g_st rfl rfl rfl rfl ?_|refine g_sw rfl rfl rfl rfl (Nat.le_of_ble_eq_true rfl) ?_)|(refine k_al ?_;refine a_al ?_))
    |refine a_n ?_
    |(refine k_V ?_;first|refine v_seq ?_|refine v_reg ?_|refine v_dreg ?_|(refine v_cd rfl (fun hb=>?_) (fun hb=>?_)<;>try(exfalso;omega)))
    |refine sk_zero ?_
    |refine sk_succ ?_
    |refine wk_nil ?_
    |refine wk_cons ?_)
   refine g_c rfl (l3shade_a (x:={x with sub:=x.sub+1}) (w:=p.key) (fun hk=>k1.at hk) q1) (fun v As' hq=>?_)
   obtain⟨z,rfl,rfl,hz,hzr⟩:=hq
   have hz1:z.H={x.H.shadeW p.key with sub:=x.H.sub+1}:=by rw[hz];exact shadeW_sub (H:=x.H) (n:=x.sub+1)
   have zg:z.gray.length≤1000000:=by
    have h1:=(sound_gray (x:={z with sub:=x.sub}) (by
     have:({z with sub:=x.sub}:HX).H={z.H with sub:=x.sub}:=rfl
     rw[this,hz1]
     have h2:=s1.sound h
     have e:(x.H.shadeW p.key).sub=x.sub:=s1.sub
     have:({({x.H.shadeW p.key with sub:=x.H.sub+1}:Heap)with sub:=x.sub}:Heap)=x.H.shadeW p.key:=by rw[←e]
     rw[this];exact h2)).1
    exact h1
   repeat' (first
    |(refine k_L ?_;refine a_p rfl ?_)
    |refine a_n ?_
    |(refine k_V ?_;first|refine v_seq ?_|refine v_reg ?_))
   refine g_c rfl (l3shade_a (x:=z) (w:=p.val) (fun hk=>by rw[hz1];show _∧_<((x.H.shadeW p.key).cells.length:Int);rw[s1.len];exact w1.at hk) zg) (fun v As' hq=>?_)
   obtain⟨u,rfl,rfl,hu,hur⟩:=hq
   repeat' (first
    |refine a_n ?_
    |(refine k_V ?_;refine v_ret ?_)
    |refine s_r ?_)
   refine fa_r (fun _ _=>rfl) (Pm.ent (fin u)) ⟨_,rfl,?_⟩
   rw[hu,hz1]
   exact shadeW_sub
  ·have gp:y.c.pairs[x.H.sub.toNat]?=none:=List.getElem?_eq_none (by omega)
   rw[gp]
   simp only
   repeat' (first
    |(refine k_L ?_;first|refine a_p rfl ?_|(refine k_l ?_;refine g_l rfl ?_)|(refine k_i ?_;refine g_i rfl rfl ?_)|(refine k_st ?_;refine g_st rfl rfl rfl rfl ?_)|(refine a_dr rfl rfl (kn_t (kn_t (kn_t (kn_h pl_sl)))) (by omega) (kn_t (kn_t (kn_t (kn_h cp_sl)))) ?_))
    |refine a_n ?_
    |(refine k_V ?_;first|refine v_seq ?_|refine v_reg ?_|refine v_dreg ?_|refine v_ret ?_|refine v_skip ?_|(refine v_cd rfl (fun hb=>?_) (fun hb=>?_)<;>try(exfalso;omega)))
    |refine s_r ?_)
   refine fa_r (As':=hp a ({x with xs:=x.xs.set g.toNat (y.s_color 2),gd:=x.gd.drop 1 1,gray:=x.gray.drop 1,sub:=0}:HX)) (fun _ _=>rfl) ?_ ⟨_,rfl,?_⟩
   ·refine Ent.trans (Pm.ent (As1:=[slA 1 iv x.gd x.gray,hdA a ((x.hdr.s_gd (x.gd.drop 1 1) (x.gray.length-1)).s_sub 0),slA 3 wv x.rd x.regs,clA x.cd (x.xs.set g.toNat (y.s_color 2))]) pmt) ?_
    refine(ent_d1 (by rw[hg];simp)).trans ?_
    exact Pm.ent (fin _ (h3:=by simp[HX.hdr,Hdr.s_gd,Hdr.s_sub]))
   ·unfold HX.H Heap.black
    simp only[List.map_set,hg,List.drop_one,List.tail_cons,hgr]
    congr 2
    have gc':(Heap.mk x.room x.used x.born x.regs (x.xs.map (·.c)) x.phase x.hand x.sub (g::r) x.per x.start x.rounds x.forced).getC g=y.c:=gc
    rw[gc']
    rfl
theorem l3sweep_a{a:Nat}{x:HX}(h:Sound x.H)(hph:x.H.phase=3):FnA Tryz.prog 138 [ptr a] (hp a x) (fun v As=>∃z:HX,As=hp a z∧z.H=x.H.sweepU):=by
 obtain⟨q1,q2,q3⟩:=sound_gray h
 have hl:=x.len
 have hnc:x.hdr.nc=x.xs.length:=rfl
 have hhd:x.hdr.hand=x.H.hand:=rfl
 have h0:=h.r1.hand
 refine fnA_of (fun h=>fn138 (by simp) h) ?_
 unfold Heap.sweepU
 by_cases hh:x.H.hand=x.H.cells.length
 ·rw[if_pos hh]
  repeat' (first
   |(refine k_L ?_;first|refine a_p rfl ?_|(refine k_l ?_;refine g_l rfl ?_)|(refine g_c rfl (l3phase_a (x:=x)) (fun v As' hq=>?_);subst hq))
   |refine a_n ?_
   |(refine k_V ?_;first|refine v_seq ?_|refine v_reg ?_|refine v_dreg ?_|refine v_ret ?_|(refine v_cd rfl (fun hb=>?_) (fun hb=>?_)<;>try(exfalso;omega)))
   |refine s_r ?_)
  exact fa_r (fun _ _=>rfl) (Pm.ent (fin (x.ph 4 0))) ⟨_,rfl,ph_H rfl⟩
 ·rw[if_neg hh]
  obtain⟨k,hk⟩:=Int.eq_ofNat_of_zero_le h0.1
  have hk':x.hdr.hand=k:=hk
  obtain⟨y,gy,gc⟩:=HX.at (x:=x) (i:=k) (by omega)
  have gk:=HX.gc gy
  have gy':x.xs[x.hdr.hand.toNat]?=some y:=by rw[hk'];exact gy
  have hpl:=h.r2.pl (List.mem_of_getElem? gc)
  have hus:=h.r3
  have hnn:=pairsN_nonneg x.H.cells
  have hun:=pairsN_units h.r2
  have hrm:=h.r1.room
  unfold R3 at hus
  have hud:x.hdr.used=x.H.used:=rfl
  rw[hk,gk]
  repeat' (first
   |(refine k_L ?_;first|(refine k_ad ?_;refine g_ad rfl rfl ?_)|(refine k_su ?_;refine g_su rfl rfl ?_)|refine a_p rfl ?_|(refine k_g ?_;first|refine a_gy rfl rfl ?_|refine a_gn rfl rfl ?_|(refine a_gd rfl (fun hb=>?_) (fun hb=>?_)<;>try(exfalso;omega)))|(refine k_l ?_;refine g_l rfl ?_)|(refine k_i ?_;refine g_i rfl rfl ?_)|(refine k_ls ?_;refine g_ls rfl ?_)|(refine k_st ?_;first|refine g_st rfl rfl rfl rfl ?_|refine g_sw rfl rfl rfl rfl (Nat.le_of_ble_eq_true rfl) ?_)|(refine k_al ?_;refine a_al ?_)|(refine a_c0 CS.zero gy' rfl rfl rfl rfl rfl rfl rfl ?_))
   |refine a_n ?_
   |(refine k_V ?_;first|refine v_seq ?_|refine v_reg ?_|refine v_dreg ?_|refine v_skip ?_|refine v_cf rfl ?_|(refine v_cd rfl (fun hb=>?_) (fun hb=>?_)<;>try(exfalso;omega)))
   |refine sk_zero ?_
   |refine sk_succ ?_
   |refine wk_nil ?_
   |refine wk_cons ?_)
  ·refine fa_n (fun _ _=>rfl) (Pm.ent (fin {x with used:=x.used-(1+y.c.pairs.length),xs:=x.xs.set x.hdr.hand.toNat CS.zero,hand:=x.hand+1})) ⟨_,rfl,?_⟩
   rw[if_pos ⟨by assumption,by assumption⟩]
   show({x.H with used:=x.used-(1+y.c.pairs.length),cells:=(x.xs.set x.hdr.hand.toNat CS.zero).map (·.c),hand:=x.hand+1}:Heap)=_
   rw[List.map_set,hk',show x.hand=k from hk]
   rfl
  all_goals refine fa_n (fun _ _=>rfl) (Pm.ent (fin {x with xs:=x.xs.set x.hdr.hand.toNat (y.s_color 0),hand:=x.hand+1})) ⟨_,rfl,?_⟩
  all_goals rw[if_neg (fun h=>by first|exact absurd h.1 (by assumption)|exact absurd h.2 (by assumption))]
  all_goals show({x.H with cells:=(x.xs.set x.hdr.hand.toNat (y.s_color 0)).map (·.c),hand:=x.hand+1}:Heap)=_
  all_goals rw[List.map_set,hk',show x.hand=k from hk]
  all_goals rfl
theorem l3free_q{m:Mem}{a:Nat}{x:HX}(h:Has m (hp a x)):Qt Tryz.prog 91 [ptr a] m (.int .i64 (frG x.H x.xs.length)):=by
 have hb0:=h.lens
 have hl:=x.len
 have hnc:x.hdr.nc=x.xs.length:=rfl
 refine qt_of (fnA_of (fun h=>fn91 (by simp) h) ?_)
 obtain⟨f1,f2,f3,f4⟩:=frG_ok x.H x.xs.length
 repeat' (first
  |(refine k_L ?_;first|refine a_p rfl ?_|(refine k_l ?_;refine g_l rfl ?_))
  |refine a_n ?_
  |(refine k_V ?_;first|refine v_seq ?_|refine v_reg ?_)
  |refine s_n ?_)
 refine g_range x.xs.length (fun _:Unit=>[(0,.v (ptr a)),(8,.v (.slice x.cd.a x.xs.length x.cd.cap))]) (fun _=>[ro m]) (fun i _=>∀j:Nat,j<i→(x.H.getC j).state≠0) () (fun j hj=>by omega) (fun i _ hi hv=>?_) (fun _ hv=>?_)
 ·obtain⟨y,gy,gc⟩:=HX.at hi
  have gk:=HX.gc gy
  repeat' (first
   |(refine k_L ?_;first|refine a_p rfl ?_|(refine k_i ?_;refine g_i rfl rfl ?_)|(refine k_ls ?_;refine g_ls rfl ?_)|(refine k_st ?_;refine g_sw rfl rfl rfl rfl (Nat.le_of_ble_eq_true rfl) ?_)|(refine k_al ?_;refine a_al ?_))
   |refine a_n ?_
   |(refine k_V ?_;first|refine v_seq ?_|refine v_reg ?_|refine v_ret ?_|refine v_skip ?_|(refine v_cd rfl (fun hb=>?_) (fun hb=>?_)<;>try(exfalso;omega)))
   |refine s_r ?_
   |refine r_rt ?_
   |refine sk_zero ?_
   |refine sk_succ ?_
   |refine wk_nil ?_
   |refine wk_cons ?_)
  ·refine fa_q (by simp) (fun _ _=>rfl) ?_
   congr 1
   rcases Int.lt_or_le (frG x.H x.xs.length) i with e|e
   ·have h1:=(f3 (by omega)).2
    have h2:=hv (frG x.H x.xs.length).toNat (by omega)
    rw[show(((frG x.H x.xs.length).toNat:Nat):Int)=frG x.H x.xs.length by omega]at h2
    exact absurd h1 h2
   ·rcases Int.lt_or_le i (frG x.H x.xs.length)with e2|e2
    ·exact absurd (by rw[gk];assumption) (f4 i hi e2)
    ·omega
  ·refine r_nx () (fun j hj=>?_)
   by_cases e:j=i
   ·subst e;rw[gk];assumption
   ·exact hv j (by omega)
 ·repeat' (first
   |(refine k_L ?_;first|refine a_p rfl ?_|(refine k_l ?_;refine g_l rfl ?_))
   |refine a_n ?_
   |(refine k_V ?_;first|refine v_seq ?_|refine v_reg ?_|refine v_ret ?_))
  refine fa_q (by simp) (fun _ _=>rfl) ?_
  congr 1
  rcases Int.lt_or_le (frG x.H x.xs.length) x.xs.length with e|e
  ·have h1:=(f3 (by omega)).2
   have h2:=hv (frG x.H x.xs.length).toNat (by omega)
   rw[show(((frG x.H x.xs.length).toNat:Nat):Int)=frG x.H x.xs.length by omega]at h2
   exact absurd h1 h2
  ·rw[hnc];omega
theorem lead_moved{H K:Heap}{f u:Int}{w:Word}(hf:Formed H w)(hw:w.kind=2→(H.getC w.at_).state=1)(h0:0≤f)(hfu:f<u)(hsu:(H.getC u).state=1)(hK:∀j:Int,K.getC j=if j.toNat=u.toNat then Cell.gone f else if j.toNat=f.toNat then H.getC u else H.getC j):K.lead w=w.redir u f:=by
 unfold Heap.lead Word.redir
 by_cases hk:w.kind=2
 ·have hat:=hf.at hk
  have h1:=hw hk
  by_cases e:w.at_=u
  ·have:K.getC w.at_=Cell.gone f:=by rw[hK,if_pos (by omega)]
   rw[this,if_pos ⟨hk,rfl⟩,if_pos ⟨hk,e⟩]
   have:w.num=0:=by
    rcases hf with x|x|x
    ·omega
    ·omega
    ·exact x.2.1
   cases w
   simp only at hk this
   simp only[Cell.gone,hk,this]
  ·have n1:¬(w.kind=2∧(K.getC w.at_).state=2):=by
    rintro⟨_,h2⟩
    rw[hK,if_neg (by omega)]at h2
    split at h2<;>omega
   rw[if_neg n1,if_neg (fun h=>e h.2)]
 ·have n1:¬(w.kind=2∧(K.getC w.at_).state=2):=fun h=>hk h.1
  rw[if_neg n1,if_neg (fun h=>hk h.1)]
theorem l3move_a{a:Nat}{x:HX}(h:Sound x.H)(hph:x.H.phase=4):FnA Tryz.prog 139 [ptr a] (hp a x) (fun v As=>∃z:HX,As=hp a z∧z.H=x.H.moveU):=by
 obtain⟨q1,q2,q3⟩:=sound_gray h
 have hl:=x.len
 have hnc:x.hdr.nc=x.xs.length:=rfl
 have hnr:x.hdr.nr=x.regs.length:=rfl
 refine fnA_of (fun h=>fn139 (by simp) h) ?_
 unfold Heap.moveU
 rw[hl]
 obtain⟨f1,f2,f3,f4⟩:=frG_ok x.H x.xs.length
 obtain⟨u1,u2,u3,u4⟩:=luG_ok x.H x.xs.length
 generalize hv1:frG x.H x.xs.length=f at*
 generalize hv2:luG x.H x.xs.length=u at*
 repeat' (first
  |(refine k_L ?_;first|(refine k_su ?_;refine g_su rfl rfl ?_)|refine a_p rfl ?_|(refine k_l ?_;refine g_l rfl ?_)|(refine a_cq rfl (fun m hm=>l3free_q (x:=x) (sep_has hm pmt)) ?_))
  |refine a_n ?_
  |(refine k_V ?_;first|refine v_seq ?_|refine v_reg ?_))
 rw[hv1]
 refine v_mono (Q:=seqA (Jx (fun _:Unit=>[(0,.v (ptr a)),(2,.v (.int .i64 f)),(3,.v (.int .i64 u))]) (fun _=>hp a x) (fun _=>True)) (fun _ _ _=>False)) ?_ ?_
 ·refine v_blk ?_
  refine v_loop (fun k:Nat=>[(0,.v (ptr a)),(2,.v (.int .i64 f)),(3,.v (.int .i64 ((k:Int)-1)))]) (fun _=>hp a x) (fun n k=>n=k∧k≤x.xs.length∧luG x.H k=u) ⟨_,x.xs.length,⟨rfl,rfl,rfl,trivial⟩,Ent.refl _,rfl,Nat.le_refl _,hv2⟩ ?_
  rintro n k ⟨rfl,hk,hlu⟩
  cases n with
  |zero=>
   have hu1:u= -1:=hlu.symm
   subst hu1
   repeat' (first
    |(refine k_L ?_;first|refine a_p rfl ?_|(refine k_g ?_;refine a_gn rfl rfl ?_))
    |refine a_n ?_
    |(refine k_V ?_;first|refine v_seq ?_|refine v_reg ?_|refine v_exit ?_|refine v_cf rfl ?_)
    |refine s_n ?_
    |refine s_e ?_
    |refine b_e ?_)
   exact j_i () trivial
  |succ n=>
   obtain⟨y,gy,gc⟩:=HX.at (x:=x) (i:=n) (by omega)
   have gk:=HX.gc gy
   have eu:luG x.H (n+1)=if y.c.state=1 then(n:Int)else luG x.H n:=by show(if _ then _ else _)=_;rw[gk]
   have en:((n+1:Nat):Int)-1=n:=by omega
   rw[en]
   repeat' (first
    |(refine k_L ?_;first|(refine k_su ?_;refine g_su rfl rfl ?_)|refine a_p rfl ?_|(refine k_g ?_;refine a_gy rfl rfl ?_)|(refine k_l ?_;refine g_l rfl ?_)|(refine k_i ?_;refine g_i rfl rfl ?_))
    |refine a_n ?_
    |(refine k_V ?_;first|refine v_seq ?_|refine v_reg ?_|refine v_br ?_|refine v_exit ?_|refine v_skip ?_|(refine v_cn rfl (fun hb=>?_) (fun hb=>?_)<;>try(exfalso;omega)))
    |refine s_n ?_
    |refine s_e ?_
    |refine b_n ?_
    |refine b_e ?_)
   ·exact⟨n,n,by omega,⟨rfl,rfl,rfl,trivial⟩,Ent.refl _,rfl,by omega,by rw[eu,if_neg (by assumption)]at hlu;exact hlu⟩
   ·have hun:u=n:=by rw[←hlu,eu,if_pos (by assumption)]
    subst hun
    exact j_i () trivial
 rintro y S' As' hq
 cases y with
 |ret=>exact hq.elim
 |ext i=>exact hq.elim
 |nrm=>
 obtain⟨_,hl',he',_⟩:=hq
 refine v_weak _ hl' (VA.ent he' ?_)
 by_cases hfu:u≤f
 ·rw[if_pos hfu]
  repeat' (first
   |(refine k_L ?_;first|refine a_p rfl ?_|(refine g_c rfl (l3phase_a (x:=x)) (fun v As' hq=>?_);subst hq))
   |refine a_n ?_
   |(refine k_V ?_;first|refine v_seq ?_|refine v_reg ?_|refine v_ret ?_|(refine v_cd rfl (fun hb=>?_) (fun hb=>?_)<;>try(exfalso;omega)))
   |refine s_r ?_)
  exact fa_r (fun _ _=>rfl) (Pm.ent (fin (x.ph 5 0))) ⟨_,rfl,ph_H rfl⟩
 ·rw[if_neg hfu]
  have sf:=(f3 (by omega)).2
  have su:=u3 (by omega)
  have fu0:f<u:=by omega
  obtain⟨fn,rfl⟩:=Int.eq_ofNat_of_zero_le f1
  obtain⟨un,rfl⟩:=Int.eq_ofNat_of_zero_le (by omega:0≤u)
  obtain⟨yf,gf,_⟩:=HX.at (x:=x) (i:=fn) (by omega)
  obtain⟨yu,gu,_⟩:=HX.at (x:=x) (i:=un) (by omega)
  have cf:=HX.gc gf
  have cu:=HX.gc gu
  have gu2:(x.xs.set fn yu)[un]?=some yu:=by rw[List.getElem?_set,if_neg (by omega)];exact gu
  have lf:=(List.getElem?_eq_some_iff.1 gf).1
  have lu:=(List.getElem?_eq_some_iff.1 gu).1
  repeat' (first
   |(refine k_L ?_;first|refine a_p rfl ?_|(refine k_l ?_;refine g_l rfl ?_)|(refine k_i ?_;refine g_i rfl rfl ?_)|(refine k_ls ?_;refine g_ls rfl ?_))
   |refine a_n ?_
   |(refine k_V ?_;first|refine v_seq ?_|refine v_reg ?_|refine v_dreg ?_|refine v_skip ?_|(refine v_cd rfl (fun hb=>?_) (fun hb=>?_)<;>try(exfalso;omega))))
  refine LA.ent (Bs:=[slA 8 csv x.cd x.xs,prA x.xs,hdA a x.hdr,slA 3 wv x.rd x.regs,slA 1 iv x.gd x.gray]) ?_ ?_
  ·refine Ent.trans (Pm.ent (As1:=[clA x.cd x.xs,hdA a x.hdr,slA 3 wv x.rd x.regs,slA 1 iv x.gd x.gray]) pmt) ?_
   exact cl_open.trans (Pm.ent pmt)
  refine a_st rfl rfl rfl rfl (up_h (u_cell (y':=yu) gf)) ?_
  repeat' (first
   |(refine k_L ?_;first|refine a_p rfl ?_|(refine k_l ?_;refine g_l rfl ?_)|(refine k_i ?_;refine g_i rfl rfl ?_))
   |refine a_n ?_
   |(refine k_V ?_;first|refine v_seq ?_|refine v_reg ?_))
  refine a_st rfl rfl rfl rfl (up_h (u_cell (y':=CS.gone fn) gu2)) ?_
  refine LA.ent (Bs:=hp a ({x with xs:=(x.xs.set fn yu).set un (CS.gone fn)}:HX)) ?_ ?_
  ·refine Ent.trans (Pm.ent (As1:=[prA x.xs,slA 8 csv x.cd ((x.xs.set fn yu).set un (CS.gone fn)),hdA a x.hdr,slA 3 wv x.rd x.regs,slA 1 iv x.gd x.gray]) pmt) ?_
   refine(pr_move gf gu (by omega) (g:=CS.gone fn) rfl rfl).trans ?_
   refine Ent.trans (Pm.ent (As1:=[slA 8 csv x.cd ((x.xs.set fn yu).set un (CS.gone fn)),prA ((x.xs.set fn yu).set un (CS.gone fn)),hdA a x.hdr,slA 3 wv x.rd x.regs,slA 1 iv x.gd x.gray]) pmt) ?_
   refine cl_close.trans ?_
   exact Pm.ent (fin _ (h2:=by simp[HX.hdr]) (e1:=by simp[HX.hdr]))
  repeat' (first
   |(refine k_L ?_;first|refine a_p rfl ?_|(refine k_l ?_;refine g_l rfl ?_))
   |refine a_n ?_
   |(refine k_V ?_;first|refine v_seq ?_|refine v_reg ?_)
   |refine s_n ?_)
  have hC:∀(L:List Word) (j:Int),(HX.H {x with xs:=(x.xs.set fn yu).set un (CS.gone fn),regs:=L}).getC j=if j.toNat=((un:Nat):Int).toNat then Cell.gone fn else if j.toNat=((fn:Nat):Int).toNat then x.H.getC un else x.H.getC j:=fun L j=>by
   rw[getC_L]
   show getL (((x.xs.set fn yu).set un (CS.gone fn)).map (·.c)) j=_
   rw[List.map_set,List.map_set,getL_set (by simp;omega),getL_set (by simp;omega),Int.toNat_natCast,Int.toNat_natCast,cu]
   rfl
  refine g_range x.regs.length (fun q:List Word=>[(0,.v (ptr a))]) (fun q=>hp a ({x with xs:=(x.xs.set fn yu).set un (CS.gone fn),regs:=q}:HX)) (fun i q=>q=(x.regs.take i).map (fun w=>w.redir un fn)++x.regs.drop i) x.regs (by simp) (fun i q hi hv=>?_) (fun q hv=>?_)
  ·subst hv
   obtain⟨w,gw⟩:∃w,x.regs[i]?=some w:=⟨_,List.getElem?_eq_getElem hi⟩
   obtain⟨wf,wu⟩:=reg_used h.r4 (show w∈x.H.regs from List.mem_of_getElem? gw)
   have hlm:((x.regs.take i).map (fun w=>w.redir un fn)).length=i:=by rw[List.length_map,List.length_take];omega
   have gw2:((x.regs.take i).map (fun w=>w.redir un fn)++x.regs.drop i)[i]?=some w:=by
    rw[List.getElem?_append_right (by omega),hlm,Nat.sub_self,List.getElem?_drop];exact gw
   have nx:∀w',((x.regs.take i).map (fun w=>w.redir un fn)++x.regs.drop i).set i w'=(x.regs.take i).map (fun w=>w.redir un fn)++w'::x.regs.drop (i+1):=fun w'=>by
    rw[List.set_append_right _ _ (by omega),hlm,Nat.sub_self,List.drop_eq_getElem_cons hi];rfl
   have nw:x.regs[i]=w:=(List.getElem?_eq_some_iff.1 gw).2
   have nx2:∀w',w'=w.redir un fn→(x.regs.take i).map (fun w=>w.redir un fn)++w'::x.regs.drop (i+1)=(x.regs.take (i+1)).map (fun w=>w.redir un fn)++x.regs.drop (i+1):=fun w' e=>by
    rw[List.take_add_one,gw,e];simp
   generalize hL:(x.regs.take i).map (fun w=>w.redir un fn)++x.regs.drop i=L at*
   have hLl:L.length=x.regs.length:=by rw[←hL,List.length_append,hlm,List.length_drop];omega
   have hld:=lead_moved (H:=x.H) (K:=HX.H {x with xs:=(x.xs.set fn yu).set un (CS.gone fn),regs:=L}) wf (fun hk=>(wu hk).1) f1 fu0 su (hC L)
   have hnL:(HX.hdr {x with xs:=(x.xs.set fn yu).set un (CS.gone fn),regs:=L}).nr=L.length:=rfl
   repeat' (first
    |(refine k_L ?_;first|refine a_p rfl ?_|(refine k_l ?_;refine g_l rfl ?_)|(refine k_i ?_;refine g_i rfl rfl ?_)|(refine k_ls ?_;refine g_ls rfl ?_)|(refine k_st ?_;refine g_st rfl rfl rfl rfl ?_)|(refine k_q ?_;refine a_q rfl (fun m hm=>qt_e (l1resolve_q (x:={x with xs:=(x.xs.set fn yu).set un (CS.gone fn),regs:=L}) (sep_has hm pmt) (fun hk=>by have:=wf.at hk;rw[HX.len];simp;omega)) (by rw[hld])) ?_))
    |refine a_n ?_
    |(refine k_V ?_;first|refine v_seq ?_|refine v_reg ?_|refine v_dreg ?_))
   refine r_nx (L.set i (w.redir un fn)) ?_ (he:=Pm.ent (fin _ (h1:=by simp[HX.hdr])))
   rw[nx]
   exact nx2 _ rfl
  ·subst hv
   repeat' (first
    |(refine k_L ?_;first|(refine k_ad ?_;refine g_ad rfl rfl ?_)|(refine k_su ?_;refine g_su rfl rfl ?_)|(refine k_ml ?_;refine g_ml rfl rfl ?_)|refine a_p rfl ?_|(refine k_g ?_;first|refine a_gy rfl rfl ?_|refine a_gn rfl rfl ?_|refine a_gu rfl ?_|(refine a_gd rfl (fun hb=>?_) (fun hb=>?_)<;>try(exfalso;omega))|(refine a_ge rfl (fun hb=>?_) (fun hb=>?_)<;>try(exfalso;omega))|(refine a_gne rfl (fun hb=>?_) (fun hb=>?_)<;>try(exfalso;omega))|(refine a_gnd rfl (fun hb=>?_) (fun hb=>?_)<;>try(exfalso;omega)))|(refine k_l ?_;refine g_l rfl ?_)|(refine k_i ?_;refine g_i rfl rfl ?_)|(refine k_ls ?_;refine g_ls rfl ?_)|(refine k_st ?_;first|refine g_st rfl rfl rfl rfl ?_|refine g_sw rfl rfl rfl rfl (Nat.le_of_ble_eq_true rfl) ?_)|(refine k_al ?_;refine a_al ?_)|(refine k_bx ?_;refine a_bx rfl rfl ?_)|(refine k_bl ?_;refine a_bl rfl ?_)|(refine k_p ?_;first|(refine a_pd rfl (fun hb=>?_) (fun hb=>?_)<;>try(exfalso;omega))|(refine a_pe rfl (fun hb=>?_) (fun hb=>?_)<;>try(exfalso;omega))|(refine a_pne rfl (fun hb=>?_) (fun hb=>?_)<;>try(exfalso;omega))|(refine a_pnd rfl (fun hb=>?_) (fun hb=>?_)<;>try(exfalso;omega))))
    |refine a_n ?_
    |(refine k_V ?_;first|refine v_rv ?_|refine v_seq ?_|refine v_reg ?_|refine v_dreg ?_|refine v_zreg ?_|refine v_bs ?_|refine v_br ?_|refine v_bd ?_|refine v_bc ?_|refine v_bk ?_|refine v_bb ?_|refine v_ret ?_|refine v_exit ?_|refine v_skip ?_|refine v_ct rfl ?_|refine v_cf rfl ?_|(refine v_cd rfl (fun hb=>?_) (fun hb=>?_)<;>try(exfalso;omega))|(refine v_ce rfl (fun hb=>?_) (fun hb=>?_)<;>try(exfalso;omega))|(refine v_cn rfl (fun hb=>?_) (fun hb=>?_)<;>try(exfalso;omega))|(refine v_cnd rfl (fun hb=>?_) (fun hb=>?_)<;>try(exfalso;omega)))
    |refine s_n ?_
    |refine s_r ?_
    |refine s_e ?_
    |refine b_n ?_
    |refine b_r ?_
    |refine b_e ?_
    |refine b_o rfl ?_
    |refine r_rt ?_
    |refine r_bk rfl ?_
    |refine r_ex rfl rfl ?_
    |refine sk_zero ?_
    |refine sk_succ ?_
    |refine wk_nil ?_
    |refine wk_cons ?_)
   refine fa_n (fun _ _=>rfl) (Pm.ent pmt) ⟨_,rfl,?_⟩
   unfold HX.H Heap.moved
   simp only[List.map_set,List.take_of_length_le (Nat.le_refl _),List.drop_length,List.append_nil,Int.toNat_natCast]
   have cu':(Heap.mk x.room x.used x.born x.regs (x.xs.map (·.c)) x.phase x.hand x.sub x.gray x.per x.start x.rounds x.forced).getC un=yu.c:=cu
   rw[cu']
   rfl
theorem u_pair{cd:D}{ys:List CS}{i k:Nat}{y:CS}{p p':Pair}(hi:ys[i]?=some y)(hk:y.c.pairs[k]?=some p):UpA (clA cd ys) y.d.b (y.d.o+k*6) (pv p') (clA cd (ys.set i (y.s_pair k p'))):=up_cp (j:=0) hi hk (by simp[pv]) rfl
theorem l3mend_a{a:Nat}{x:HX}(h:Sound x.H)(hph:x.H.phase=5):FnA Tryz.prog 140 [ptr a] (hp a x) (fun v As=>∃z:HX,As=hp a z∧z.H=x.H.mendU):=by
 obtain⟨q1,q2,q3⟩:=sound_gray h
 have hl:=x.len
 have hnc:x.hdr.nc=x.xs.length:=rfl
 have hhd:x.hdr.hand=x.H.hand:=rfl
 have hsb:x.hdr.sub=x.H.sub:=rfl
 have h0:=h.r1.hand
 have hs0:=h.r1.sub
 refine fnA_of (fun h=>fn140 (by simp) h) ?_
 unfold Heap.mendU
 by_cases hh:x.H.hand=x.H.cells.length
 ·rw[if_pos hh]
  repeat' (first
   |(refine k_L ?_;first|refine a_p rfl ?_|(refine k_l ?_;refine g_l rfl ?_)|(refine g_c rfl (l3phase_a (x:=x)) (fun v As' hq=>?_);subst hq))
   |refine a_n ?_
   |(refine k_V ?_;first|refine v_seq ?_|refine v_reg ?_|refine v_dreg ?_|refine v_ret ?_|(refine v_cd rfl (fun hb=>?_) (fun hb=>?_)<;>try(exfalso;omega)))
   |refine s_r ?_)
  exact fa_r (fun _ _=>rfl) (Pm.ent (fin (x.ph 6 x.xs.length))) ⟨_,rfl,ph_H (by rw[if_pos rfl,hl])⟩
 ·rw[if_neg hh]
  obtain⟨k,hk⟩:=Int.eq_ofNat_of_zero_le h0.1
  have hk':x.hdr.hand=k:=hk
  obtain⟨y,gy,gc⟩:=HX.at (x:=x) (i:=k) (by omega)
  have gk:=HX.gc gy
  have gy':x.xs[x.hdr.hand.toNat]?=some y:=by rw[hk'];exact gy
  have hpl:=h.r2.pl (List.mem_of_getElem? gc)
  rw[hk,gk]
  by_cases hlt:x.H.sub<y.c.pairs.length
  ·obtain⟨s,hs⟩:=Int.eq_ofNat_of_zero_le hs0.1
   have hs':x.hdr.sub=s:=hs
   obtain⟨p,gp⟩:∃p,y.c.pairs[s]?=some p:=⟨_,List.getElem?_eq_getElem (by omega)⟩
   have gp':y.c.pairs[x.hdr.sub.toNat]?=some p:=by rw[hs'];exact gp
   rw[hs,show((s:Int)).toNat=s by omega,gp]
   simp only
   obtain⟨f1,f2,_⟩:=h.r4.pairs k y.c gc s p gp
   repeat' (first
    |(refine k_L ?_;first|refine a_p rfl ?_|(refine k_l ?_;refine g_l rfl ?_)|(refine k_i ?_;refine g_i rfl rfl ?_)|(refine k_ls ?_;refine g_ls rfl ?_)|(refine k_st ?_;refine g_sw rfl rfl rfl rfl (Nat.le_of_ble_eq_true rfl) ?_)|(refine k_al ?_;refine a_al ?_)|(refine k_c ?_;first|refine a_cq rfl (fun m hm=>l1resolve_q (x:=x) (w:=p.key) (sep_has hm pmt) (fun hk=>f1.at hk)) ?_|refine a_cq rfl (fun m hm=>l1resolve_q (x:=x) (w:=p.val) (sep_has hm pmt) (fun hk=>f2.at hk)) ?_))
    |refine a_n ?_
    |(refine k_V ?_;first|refine v_seq ?_|refine v_reg ?_|refine v_dreg ?_|refine v_skip ?_|(refine v_cd rfl (fun hb=>?_) (fun hb=>?_)<;>try(exfalso;omega)))
    |refine sk_zero ?_
    |refine sk_succ ?_
    |refine wk_nil ?_
    |refine wk_cons ?_)
   refine a_st rfl rfl rfl rfl (up_t (up_t (up_h (u_pair (p':=⟨x.H.lead p.key,x.H.lead p.val⟩) gy' gp')))) ?_
   repeat' (first
    |(refine k_L ?_;first|(refine k_ad ?_;refine g_ad rfl rfl ?_)|refine a_p rfl ?_|(refine k_l ?_;refine g_l rfl ?_)|(refine k_st ?_;refine g_st rfl rfl rfl rfl ?_))
    |refine a_n ?_
    |(refine k_V ?_;first|refine v_seq ?_|refine v_reg ?_|refine v_ret ?_)
    |refine s_r ?_)
   refine fa_r (fun _ _=>rfl) (Pm.ent (fin ({x with xs:=x.xs.set x.hdr.hand.toNat (y.s_pair x.hdr.sub.toNat ⟨x.H.lead p.key,x.H.lead p.val⟩),sub:=x.sub+1}:HX))) ⟨_,rfl,?_⟩
   show({x.H with cells:=((x.xs.set x.hdr.hand.toNat (y.s_pair x.hdr.sub.toNat ⟨x.H.lead p.key,x.H.lead p.val⟩)).map (·.c)),sub:=x.sub+1}:Heap)=_
   rw[List.map_set,hk',hs',show x.sub=s from hs]
   unfold CS.s_pair
   simp only[Int.toNat_natCast]
   rw[hk]
   rfl
  ·have gp:y.c.pairs[x.H.sub.toNat]?=none:=List.getElem?_eq_none (by omega)
   rw[gp]
   simp only
   repeat' (first
    |(refine k_L ?_;first|(refine k_ad ?_;refine g_ad rfl rfl ?_)|refine a_p rfl ?_|(refine k_l ?_;refine g_l rfl ?_)|(refine k_i ?_;refine g_i rfl rfl ?_)|(refine k_st ?_;refine g_st rfl rfl rfl rfl ?_))
    |refine a_n ?_
    |(refine k_V ?_;first|refine v_seq ?_|refine v_reg ?_|refine v_dreg ?_|refine v_skip ?_|(refine v_cd rfl (fun hb=>?_) (fun hb=>?_)<;>try(exfalso;omega))))
   refine fa_n (fun _ _=>rfl) (Pm.ent (fin ({x with hand:=x.hand+1,sub:=0}:HX))) ⟨_,rfl,?_⟩
   show({x.H with hand:=x.hand+1,sub:=0}:Heap)=_
   rw[show x.hand=k from hk]
theorem l3close_a{a:Nat}{x:HX}(h:Sound x.H)(hph:x.H.phase=6):FnA Tryz.prog 141 [ptr a] (hp a x) (fun v As=>∃z:HX,As=hp a z∧z.H=x.H.closeU):=by
 obtain⟨q1,q2,q3⟩:=sound_gray h
 have hl:=x.len
 have hnc:x.hdr.nc=x.xs.length:=rfl
 have hhd:x.hdr.hand=x.H.hand:=rfl
 have h0:=h.r1.hand
 have hrd:=h.r1.rounds
 have hrd':x.hdr.rounds=x.H.rounds:=rfl
 have hre:(x.ph 0 0).hdr.rounds=x.H.rounds:=rfl
 refine fnA_of (fun h=>fn141 (by simp) h) ?_
 refine v_kn (p:=x.xs.length≤x.cd.cap) (kn_t (kn_t (kn_h kc_cl))) (fun hcap=>?_)
 have hcap':x.hdr.cd.cap=x.cd.cap:=rfl
 unfold Heap.closeU
 by_cases hh:x.H.hand=0
 ·rw[if_pos hh]
  repeat' (first
   |(refine k_L ?_;first|(refine k_ad ?_;refine g_ad rfl rfl ?_)|refine a_p rfl ?_|(refine k_l ?_;refine g_l rfl ?_)|(refine k_st ?_;refine g_st rfl rfl rfl rfl ?_)|(refine g_c rfl (l3phase_a (x:=x)) (fun v As' hq=>?_);subst hq))
   |refine a_n ?_
   |(refine k_V ?_;first|refine v_seq ?_|refine v_reg ?_|refine v_ret ?_|refine v_skip ?_|(refine v_cd rfl (fun hb=>?_) (fun hb=>?_)<;>try(exfalso;omega)))
   |refine s_r ?_)
  ·refine fa_r (fun _ _=>rfl) (Pm.ent (fin ({x.ph 0 0 with rounds:=x.rounds+1}:HX))) ⟨_,rfl,?_⟩
   rw[if_pos (show x.H.rounds<1000000000 by omega)]
   rfl
  ·refine fa_r (fun _ _=>rfl) (Pm.ent (fin (x.ph 0 0))) ⟨_,rfl,?_⟩
   rw[if_neg (show ¬x.H.rounds<1000000000 by omega)]
   rfl
 ·rw[if_neg hh]
  obtain⟨k,hk⟩:=Int.eq_ofNat_of_zero_le (show 0≤x.H.hand-1 by omega)
  have hk':x.hdr.hand-1=k:=hk
  obtain⟨y,gy,gc⟩:=HX.at (x:=x) (i:=k) (by omega)
  have gk:=HX.gc gy
  have gy':x.xs[(x.hdr.hand-1).toNat]?=some y:=by rw[hk'];exact gy
  have gz:(x.xs.set (x.hdr.hand-1).toNat CS.zero)[(x.hdr.hand-1).toNat]?=some CS.zero:=by
   rw[List.getElem?_set,if_pos rfl,if_pos (List.getElem?_eq_some_iff.1 gy').1]
  have hsh:(x.hdr.s_hand (x.hdr.hand-1)).hand=x.hdr.hand-1:=rfl
  have hsn:(x.hdr.s_hand (x.hdr.hand-1)).nc=x.xs.length:=rfl
  have hsc:(x.hdr.s_hand (x.hdr.hand-1)).cd.cap=x.cd.cap:=rfl
  have ghand:x.H.getC (x.H.hand-1)=y.c:=by rw[hk];exact gk
  have eA:y.c.state=2→x.H.closeA=(x.xs.set (x.hdr.hand-1).toNat CS.zero).map (·.c):=fun e=>by
   unfold Heap.closeA
   rw[ghand,if_pos e,List.map_set];rfl
  have eB:y.c.state≠2→x.H.closeA=x.H.cells:=fun e=>by
   unfold Heap.closeA
   rw[ghand,if_neg e]
  have sA:y.c.state=2→(getL x.H.closeA (x.H.hand-1)).state=0:=fun e=>by
   rw[eA e,List.map_set,getL_set (by rw[List.length_map];omega),if_pos (by rw[hhd])];rfl
  have sB:y.c.state≠2→(getL x.H.closeA (x.H.hand-1)).state=y.c.state:=fun e=>by
   rw[eB e,←getC_L,ghand]
  repeat' (first
   |(refine k_L ?_;first|(refine k_su ?_;refine g_su rfl rfl ?_)|refine a_p rfl ?_|(refine k_g ?_;first|refine a_gy rfl rfl ?_|refine a_gn rfl rfl ?_|(refine a_gd rfl (fun hb=>?_) (fun hb=>?_)<;>try(exfalso;omega)))|(refine k_l ?_;refine g_l rfl ?_)|(refine k_i ?_;refine g_i rfl rfl ?_)|(refine k_st ?_;refine g_st rfl rfl rfl rfl ?_)|(refine a_c0 CS.zero gy' rfl rfl rfl rfl rfl rfl rfl ?_)|(refine g_tk rfl rfl ?_))
   |refine a_n ?_
   |(refine k_V ?_;first|refine v_seq ?_|refine v_reg ?_|refine v_dreg ?_|refine v_skip ?_|refine v_ct rfl ?_|refine v_cf rfl ?_|(refine v_cd rfl (fun hb=>?_) (fun hb=>?_)<;>try(exfalso;omega))))
  ·have hs2:y.c.state=2:=by assumption
   have hn:x.H.hand=x.H.cells.length:=by omega
   rw[if_pos ⟨hn,sA hs2⟩,eA hs2]
   refine fa_n (As':=hp a ({x with hand:=x.hand-1,xs:=(x.xs.set (x.hdr.hand-1).toNat CS.zero).take (x.hdr.hand-1).toNat}:HX)) (fun _ _=>rfl) ?_ ⟨_,rfl,?_⟩
   ·refine(cl_take (k:=(x.hdr.hand-1).toNat) (by rw[List.length_set];omega)).trans ?_
    exact Pm.ent (fin _ (h2:=by rw[List.length_take,List.length_set];show(x.hdr.hand-1).toNat=_;omega))
   ·show({x.H with hand:=x.hand-1,cells:=(((x.xs.set (x.hdr.hand-1).toNat CS.zero).take (x.hdr.hand-1).toNat).map (·.c))}:Heap)=_
    rw[List.map_take,show(x.hdr.hand-1).toNat=(x.H.hand-1).toNat by omega]
    rfl
  ·have hs2:y.c.state=2:=by assumption
   rw[if_neg (fun h=>by have:=h.1;omega),eA hs2]
   exact fa_n (fun _ _=>rfl) (Pm.ent (fin {x with hand:=x.hand-1,xs:=x.xs.set (x.hdr.hand-1).toNat CS.zero})) ⟨_,rfl,rfl⟩
  ·have hs2:y.c.state≠2:=by assumption
   have hs0:y.c.state=0:=by assumption
   have hn:x.H.hand=x.H.cells.length:=by omega
   rw[if_pos ⟨hn,by rw[sB hs2];exact hs0⟩,eB hs2]
   refine fa_n (As':=hp a ({x with hand:=x.hand-1,xs:=x.xs.take (x.hdr.hand-1).toNat}:HX)) (fun _ _=>rfl) ?_ ⟨_,rfl,?_⟩
   ·refine Ent.trans (Pm.ent (As1:=[clA x.cd x.xs,hdA a ((x.hdr.s_hand (x.hdr.hand-1)).s_cd x.cd (x.hdr.hand-1).toNat),slA 3 wv x.rd x.regs,slA 1 iv x.gd x.gray]) pmt) ?_
    refine(cl_take (k:=(x.hdr.hand-1).toNat) (by omega)).trans ?_
    exact Pm.ent (fin _ (h2:=by rw[List.length_take];show(x.hdr.hand-1).toNat=_;omega))
   ·show({x.H with hand:=x.hand-1,cells:=((x.xs.take (x.hdr.hand-1).toNat).map (·.c))}:Heap)=_
    rw[List.map_take,show(x.hdr.hand-1).toNat=(x.H.hand-1).toNat by omega]
    rfl
  ·have hs2:y.c.state≠2:=by assumption
   have hs0:¬y.c.state=0:=by assumption
   rw[if_neg (fun h=>hs0 (by have:=h.2;rw[sB hs2]at this;exact this)),eB hs2]
   exact fa_n (fun _ _=>rfl) (Pm.ent (fin {x with hand:=x.hand-1})) ⟨_,rfl,rfl⟩
  ·have hs2:y.c.state≠2:=by assumption
   rw[if_neg (fun h=>by have:=h.1;omega),eB hs2]
   exact fa_n (fun _ _=>rfl) (Pm.ent (fin {x with hand:=x.hand-1})) ⟨_,rfl,rfl⟩
theorem l3unit_a{a:Nat}{x:HX}(h:Sound x.H)(hph:x.H.phase≠0):FnA Tryz.prog 104 [ptr a] (hp a x) (fun v As=>∃z:HX,As=hp a z∧z.H=x.H.unitH):=by
 have h5:=h.r1.phase
 have hp':x.hdr.phase=x.H.phase:=rfl
 refine fnA_of (fun h=>fn104 (by simp) h) ?_
 unfold Heap.unitH
 rcases(by omega:x.H.phase=1∨x.H.phase=2∨x.H.phase=3∨x.H.phase=4∨x.H.phase=5∨x.H.phase=6)with e|e|e|e|e|e
 ·have hc:x.H.phase=1:=e
  repeat' (first
   |(refine k_L ?_;first|refine a_p rfl ?_|(refine k_l ?_;refine g_l rfl ?_)|(refine g_c rfl (l3roots_a h e) (fun v As' hq=>?_);obtain⟨z,rfl,hz⟩:=hq))
   |refine a_n ?_
   |(refine k_V ?_;first|refine v_seq ?_|refine v_reg ?_|refine v_bs ?_|(refine v_cd rfl (fun hb=>?_) (fun hb=>?_)<;>try(exfalso;omega)))
   |refine b_n ?_)
  refine fa_n (fun _ _=>rfl) (Pm.ent (fin z)) ⟨_,rfl,?_⟩
  rw[hz]
  repeat(first|rw[if_pos e]|rw[if_neg (by omega)])
 ·have hc:x.H.phase=2:=e
  repeat' (first
   |(refine k_L ?_;first|refine a_p rfl ?_|(refine k_l ?_;refine g_l rfl ?_)|(refine g_c rfl (l3mark_a h e) (fun v As' hq=>?_);obtain⟨z,rfl,hz⟩:=hq))
   |refine a_n ?_
   |(refine k_V ?_;first|refine v_seq ?_|refine v_reg ?_|refine v_bs ?_|(refine v_cd rfl (fun hb=>?_) (fun hb=>?_)<;>try(exfalso;omega)))
   |refine b_n ?_)
  refine fa_n (fun _ _=>rfl) (Pm.ent (fin z)) ⟨_,rfl,?_⟩
  rw[hz]
  repeat(first|rw[if_pos e]|rw[if_neg (by omega)])
 ·have hc:x.H.phase=3:=e
  repeat' (first
   |(refine k_L ?_;first|refine a_p rfl ?_|(refine k_l ?_;refine g_l rfl ?_)|(refine g_c rfl (l3sweep_a h e) (fun v As' hq=>?_);obtain⟨z,rfl,hz⟩:=hq))
   |refine a_n ?_
   |(refine k_V ?_;first|refine v_seq ?_|refine v_reg ?_|refine v_bs ?_|(refine v_cd rfl (fun hb=>?_) (fun hb=>?_)<;>try(exfalso;omega)))
   |refine b_n ?_)
  refine fa_n (fun _ _=>rfl) (Pm.ent (fin z)) ⟨_,rfl,?_⟩
  rw[hz]
  repeat(first|rw[if_pos e]|rw[if_neg (by omega)])
 ·have hc:x.H.phase=4:=e
  repeat' (first
   |(refine k_L ?_;first|refine a_p rfl ?_|(refine k_l ?_;refine g_l rfl ?_)|(refine g_c rfl (l3move_a h e) (fun v As' hq=>?_);obtain⟨z,rfl,hz⟩:=hq))
   |refine a_n ?_
   |(refine k_V ?_;first|refine v_seq ?_|refine v_reg ?_|refine v_bs ?_|(refine v_cd rfl (fun hb=>?_) (fun hb=>?_)<;>try(exfalso;omega)))
   |refine b_n ?_)
  refine fa_n (fun _ _=>rfl) (Pm.ent (fin z)) ⟨_,rfl,?_⟩
  rw[hz]
  repeat(first|rw[if_pos e]|rw[if_neg (by omega)])
 ·have hc:x.H.phase=5:=e
  repeat' (first
   |(refine k_L ?_;first|refine a_p rfl ?_|(refine k_l ?_;refine g_l rfl ?_)|(refine g_c rfl (l3mend_a h e) (fun v As' hq=>?_);obtain⟨z,rfl,hz⟩:=hq))
   |refine a_n ?_
   |(refine k_V ?_;first|refine v_seq ?_|refine v_reg ?_|refine v_bs ?_|(refine v_cd rfl (fun hb=>?_) (fun hb=>?_)<;>try(exfalso;omega)))
   |refine b_n ?_)
  refine fa_n (fun _ _=>rfl) (Pm.ent (fin z)) ⟨_,rfl,?_⟩
  rw[hz]
  repeat(first|rw[if_pos e]|rw[if_neg (by omega)])
 ·have hc:x.H.phase=6:=e
  repeat' (first
   |(refine k_L ?_;first|refine a_p rfl ?_|(refine k_l ?_;refine g_l rfl ?_)|(refine g_c rfl (l3close_a h e) (fun v As' hq=>?_);obtain⟨z,rfl,hz⟩:=hq))
   |refine a_n ?_
   |(refine k_V ?_;first|refine v_seq ?_|refine v_reg ?_|refine v_bs ?_|(refine v_cd rfl (fun hb=>?_) (fun hb=>?_)<;>try(exfalso;omega)))
   |refine b_n ?_)
  refine fa_n (fun _ _=>rfl) (Pm.ent (fin z)) ⟨_,rfl,?_⟩
  rw[hz]
  repeat(first|rw[if_pos e]|rw[if_neg (by omega)])
theorem finish_a{a:Nat}{x:HX}(h:Sound x.H):FnA Tryz.prog 171 [ptr a] (hp a x) (fun v As=>∃z:HX,v=.int .i64 (outN x.H)∧As=hp a z∧z.H=x.H.outH):=by
 obtain⟨ho,hN⟩:=outN_ok h
 refine fnA_of (fun h=>fn171 (by simp) h) ?_
 repeat' (first
  |(refine k_L ?_;refine a_p rfl ?_)
  |refine a_n ?_
  |(refine k_V ?_;first|refine v_seq ?_|refine v_reg ?_))
 refine v_blk ?_
 refine v_loop (fun q:Nat×HX=>[(0,.v (ptr a)),(3,.v (.int .i64 q.1))]) (fun q=>hp a q.2) (fun k q=>k=outN x.H-q.1∧q.1≤outN x.H∧q.2.H=iterU q.1 x.H) ⟨_,(0,x),⟨rfl,rfl,trivial⟩,Ent.refl _,rfl,Nat.zero_le _,rfl⟩ ?_
 rintro k ⟨j,z⟩ ⟨rfl,hj,hz⟩
 simp only at hj hz
 dsimp only
 have hs:Sound z.H:=by rw[hz];exact iterU_sound j h
 have hp:=out_phase h hj
 rw[←hz]at hp
 have hph:z.hdr.phase=z.H.phase:=rfl
 by_cases e:j=outN x.H
 ·have e0:=hp.2 e
  repeat' (first
   |(refine k_L ?_;first|refine a_p rfl ?_|(refine k_l ?_;refine g_l rfl ?_))
   |refine a_n ?_
   |(refine k_V ?_;first|refine v_seq ?_|refine v_reg ?_|refine v_ret ?_|refine v_exit ?_|(refine v_cn rfl (fun hb=>?_) (fun hb=>?_)<;>try(exfalso;omega))))
  refine fa_r (fun _ _=>rfl) (Pm.ent (fin z)) ⟨z,?_,rfl,?_⟩
  ·rw[e]
  ·rw[hz,e];rfl
 ·have e0:z.H.phase≠0:=fun h'=>e (hp.1 h')
  repeat' (first
   |(refine k_L ?_;first|(refine k_ad ?_;refine g_ad rfl rfl ?_)|refine a_p rfl ?_|(refine k_l ?_;refine g_l rfl ?_)|(refine g_c rfl (unit_a hs e0) (fun v As' hq=>?_);obtain⟨u,rfl,hu⟩:=hq))
   |refine a_n ?_
   |(refine k_V ?_;first|refine v_seq ?_|refine v_reg ?_|refine v_bs ?_|refine v_skip ?_|(refine v_cn rfl (fun hb=>?_) (fun hb=>?_)<;>try(exfalso;omega)))
   |refine s_n ?_
   |refine b_n ?_)
  refine⟨outN x.H-(j+1),(j+1,u),by omega,⟨rfl,rfl,trivial⟩,Pm.ent pmt,rfl,by show j+1≤outN x.H;omega,?_⟩
  show u.H=iterU (j+1) x.H
  rw[iterU_succ,←hz];exact hu
theorem l3out_a{a:Nat}{x:HX}(h:Sound x.H):FnA Tryz.prog 105 [ptr a] (hp a x) (fun v As=>∃z:HX,v=.int .i64 (outN x.H)∧As=hp a z∧z.H=x.H.outH):=by
 obtain⟨ho,hN⟩:=outN_ok h
 refine fnA_of (fun h=>fn105 (by simp) h) ?_
 repeat' (first
  |(refine k_L ?_;refine a_p rfl ?_)
  |refine a_n ?_
  |(refine k_V ?_;first|refine v_seq ?_|refine v_reg ?_))
 refine v_blk ?_
 refine v_loop (fun q:Nat×HX=>[(0,.v (ptr a)),(3,.v (.int .i64 q.1))]) (fun q=>hp a q.2) (fun k q=>k=outN x.H-q.1∧q.1≤outN x.H∧q.2.H=iterU q.1 x.H) ⟨_,(0,x),⟨rfl,rfl,trivial⟩,Ent.refl _,rfl,Nat.zero_le _,rfl⟩ ?_
 rintro k ⟨j,z⟩ ⟨rfl,hj,hz⟩
 simp only at hj hz
 dsimp only
 have hs:Sound z.H:=by rw[hz];exact iterU_sound j h
 have hp:=out_phase h hj
 rw[←hz]at hp
 have hph:z.hdr.phase=z.H.phase:=rfl
 by_cases e:j=outN x.H
 ·have e0:=hp.2 e
  repeat' (first
   |(refine k_L ?_;first|refine a_p rfl ?_|(refine k_l ?_;refine g_l rfl ?_))
   |refine a_n ?_
   |(refine k_V ?_;first|refine v_seq ?_|refine v_reg ?_|refine v_ret ?_|refine v_exit ?_|(refine v_cn rfl (fun hb=>?_) (fun hb=>?_)<;>try(exfalso;omega))))
  refine fa_r (fun _ _=>rfl) (Pm.ent (fin z)) ⟨z,?_,rfl,?_⟩
  ·rw[e]
  ·rw[hz,e];rfl
 ·have e0:z.H.phase≠0:=fun h'=>e (hp.1 h')
  repeat' (first
   |(refine k_L ?_;first|(refine k_ad ?_;refine g_ad rfl rfl ?_)|refine a_p rfl ?_|(refine k_l ?_;refine g_l rfl ?_)|(refine g_c rfl (l3unit_a hs e0) (fun v As' hq=>?_);obtain⟨u,rfl,hu⟩:=hq))
   |refine a_n ?_
   |(refine k_V ?_;first|refine v_seq ?_|refine v_reg ?_|refine v_bs ?_|refine v_skip ?_|(refine v_cn rfl (fun hb=>?_) (fun hb=>?_)<;>try(exfalso;omega)))
   |refine s_n ?_
   |refine b_n ?_)
  refine⟨outN x.H-(j+1),(j+1,u),by omega,⟨rfl,rfl,trivial⟩,Pm.ent pmt,rfl,by show j+1≤outN x.H;omega,?_⟩
  show u.H=iterU (j+1) x.H
  rw[iterU_succ,←hz];exact hu
theorem begin_H{x:HX}:x.begin.H=x.H.beginH:=by
 unfold HX.begin Heap.beginH
 by_cases e:x.phase=0
 ·rw[if_pos e,if_pos (show x.H.phase=0 from e)];exact enter_H
 ·rw[if_neg e,if_neg (show ¬x.H.phase=0 from e)]
theorem round_a{a:Nat}{x:HX}(h:Sound x.H):FnA Tryz.prog 160 [ptr a] (hp a x) (fun v As=>∃z:HX,As=hp a z∧z.H=x.H.roundH):=by
 obtain⟨o1,o2⟩:=outH_ok h
 refine fnA_of (fun h=>fn160 (by simp) h) ?_
 repeat' (first
  |(refine k_L ?_;refine a_p rfl ?_)
  |refine a_n ?_
  |(refine k_V ?_;first|refine v_seq ?_|refine v_reg ?_))
 refine g_c rfl (finish_a h) (fun v As' hq=>?_)
 obtain⟨z,rfl,rfl,hz⟩:=hq
 have zb:z.begin.H=x.H.outH.enterH 1:=by rw[begin_H,hz];unfold Heap.beginH;rw[if_pos o2]
 repeat' (first
  |(refine k_L ?_;first|refine a_p rfl ?_|(refine g_c rfl (begin_a (x:=z)) (fun v As' hq=>?_);subst hq))
  |refine a_n ?_
  |(refine k_V ?_;first|refine v_seq ?_|refine v_reg ?_))
 refine g_c rfl (finish_a (x:=z.begin) (by rw[zb];exact begin_sound o1 o2)) (fun v As' hq=>?_)
 obtain⟨u,rfl,rfl,hu⟩:=hq
 repeat' (first
  |(refine k_L ?_;first|(refine k_ad ?_;refine g_ad rfl rfl ?_)|(refine k_su ?_;refine g_su rfl rfl ?_)|(refine k_ml ?_;refine g_ml rfl rfl ?_)|refine a_p rfl ?_|(refine k_g ?_;first|refine a_gy rfl rfl ?_|refine a_gn rfl rfl ?_|refine a_gu rfl ?_|(refine a_gd rfl (fun hb=>?_) (fun hb=>?_)<;>try(exfalso;omega))|(refine a_ge rfl (fun hb=>?_) (fun hb=>?_)<;>try(exfalso;omega))|(refine a_gne rfl (fun hb=>?_) (fun hb=>?_)<;>try(exfalso;omega))|(refine a_gnd rfl (fun hb=>?_) (fun hb=>?_)<;>try(exfalso;omega)))|(refine k_l ?_;refine g_l rfl ?_)|(refine k_i ?_;refine g_i rfl rfl ?_)|(refine k_ls ?_;refine g_ls rfl ?_)|(refine k_st ?_;first|refine g_st rfl rfl rfl rfl ?_|refine g_sw rfl rfl rfl rfl (Nat.le_of_ble_eq_true rfl) ?_)|(refine k_al ?_;refine a_al ?_)|(refine k_bx ?_;refine a_bx rfl rfl ?_)|(refine k_bl ?_;refine a_bl rfl ?_)|(refine k_p ?_;first|(refine a_pd rfl (fun hb=>?_) (fun hb=>?_)<;>try(exfalso;omega))|(refine a_pe rfl (fun hb=>?_) (fun hb=>?_)<;>try(exfalso;omega))|(refine a_pne rfl (fun hb=>?_) (fun hb=>?_)<;>try(exfalso;omega))|(refine a_pnd rfl (fun hb=>?_) (fun hb=>?_)<;>try(exfalso;omega))))
  |refine a_n ?_
  |(refine k_V ?_;first|refine v_rv ?_|refine v_seq ?_|refine v_reg ?_|refine v_dreg ?_|refine v_zreg ?_|refine v_bs ?_|refine v_br ?_|refine v_bd ?_|refine v_bc ?_|refine v_bk ?_|refine v_bb ?_|refine v_ret ?_|refine v_exit ?_|refine v_skip ?_|refine v_ct rfl ?_|refine v_cf rfl ?_|(refine v_cd rfl (fun hb=>?_) (fun hb=>?_)<;>try(exfalso;omega))|(refine v_ce rfl (fun hb=>?_) (fun hb=>?_)<;>try(exfalso;omega))|(refine v_cn rfl (fun hb=>?_) (fun hb=>?_)<;>try(exfalso;omega))|(refine v_cnd rfl (fun hb=>?_) (fun hb=>?_)<;>try(exfalso;omega)))
  |refine s_n ?_
  |refine s_r ?_
  |refine s_e ?_
  |refine b_n ?_
  |refine b_r ?_
  |refine b_e ?_
  |refine b_o rfl ?_
  |refine r_rt ?_
  |refine r_bk rfl ?_
  |refine r_ex rfl rfl ?_
  |refine sk_zero ?_
  |refine sk_succ ?_
  |refine wk_nil ?_
  |refine wk_cons ?_)
 exact fa_n (fun _ _=>rfl) (Pm.ent (fin u)) ⟨_,rfl,by rw[hu,zb];rfl⟩
theorem l3round_a{a:Nat}{x:HX}(h:Sound x.H):FnA Tryz.prog 65 [ptr a] (hp a x) (fun v As=>∃z:HX,As=hp a z∧z.H=x.H.roundH):=by
 obtain⟨o1,o2⟩:=outH_ok h
 refine fnA_of (fun h=>fn65 (by simp) h) ?_
 repeat' (first
  |(refine k_L ?_;refine a_p rfl ?_)
  |refine a_n ?_
  |(refine k_V ?_;first|refine v_seq ?_|refine v_reg ?_))
 refine g_c rfl (l3out_a h) (fun v As' hq=>?_)
 obtain⟨z,rfl,rfl,hz⟩:=hq
 have zb:(z.ph 1 0).H=x.H.outH.enterH 1:=by rw[←hz];exact ph_H rfl
 repeat' (first
  |(refine k_L ?_;first|refine a_p rfl ?_|(refine g_c rfl (l3begin_a (x:=z)) (fun v As' hq=>?_);subst hq))
  |refine a_n ?_
  |(refine k_V ?_;first|refine v_seq ?_|refine v_reg ?_))
 refine g_c rfl (l3out_a (x:=z.ph 1 0) (by rw[zb];exact begin_sound o1 o2)) (fun v As' hq=>?_)
 obtain⟨u,rfl,rfl,hu⟩:=hq
 repeat' (first
  |(refine k_L ?_;first|(refine k_ad ?_;refine g_ad rfl rfl ?_)|(refine k_su ?_;refine g_su rfl rfl ?_)|(refine k_ml ?_;refine g_ml rfl rfl ?_)|refine a_p rfl ?_|(refine k_g ?_;first|refine a_gy rfl rfl ?_|refine a_gn rfl rfl ?_|refine a_gu rfl ?_|(refine a_gd rfl (fun hb=>?_) (fun hb=>?_)<;>try(exfalso;omega))|(refine a_ge rfl (fun hb=>?_) (fun hb=>?_)<;>try(exfalso;omega))|(refine a_gne rfl (fun hb=>?_) (fun hb=>?_)<;>try(exfalso;omega))|(refine a_gnd rfl (fun hb=>?_) (fun hb=>?_)<;>try(exfalso;omega)))|(refine k_l ?_;refine g_l rfl ?_)|(refine k_i ?_;refine g_i rfl rfl ?_)|(refine k_ls ?_;refine g_ls rfl ?_)|(refine k_st ?_;first|refine g_st rfl rfl rfl rfl ?_|refine g_sw rfl rfl rfl rfl (Nat.le_of_ble_eq_true rfl) ?_)|(refine k_al ?_;refine a_al ?_)|(refine k_bx ?_;refine a_bx rfl rfl ?_)|(refine k_bl ?_;refine a_bl rfl ?_)|(refine k_p ?_;first|(refine a_pd rfl (fun hb=>?_) (fun hb=>?_)<;>try(exfalso;omega))|(refine a_pe rfl (fun hb=>?_) (fun hb=>?_)<;>try(exfalso;omega))|(refine a_pne rfl (fun hb=>?_) (fun hb=>?_)<;>try(exfalso;omega))|(refine a_pnd rfl (fun hb=>?_) (fun hb=>?_)<;>try(exfalso;omega))))
  |refine a_n ?_
  |(refine k_V ?_;first|refine v_rv ?_|refine v_seq ?_|refine v_reg ?_|refine v_dreg ?_|refine v_zreg ?_|refine v_bs ?_|refine v_br ?_|refine v_bd ?_|refine v_bc ?_|refine v_bk ?_|refine v_bb ?_|refine v_ret ?_|refine v_exit ?_|refine v_skip ?_|refine v_ct rfl ?_|refine v_cf rfl ?_|(refine v_cd rfl (fun hb=>?_) (fun hb=>?_)<;>try(exfalso;omega))|(refine v_ce rfl (fun hb=>?_) (fun hb=>?_)<;>try(exfalso;omega))|(refine v_cn rfl (fun hb=>?_) (fun hb=>?_)<;>try(exfalso;omega))|(refine v_cnd rfl (fun hb=>?_) (fun hb=>?_)<;>try(exfalso;omega)))
  |refine s_n ?_
  |refine s_r ?_
  |refine s_e ?_
  |refine b_n ?_
  |refine b_r ?_
  |refine b_e ?_
  |refine b_o rfl ?_
  |refine r_rt ?_
  |refine r_bk rfl ?_
  |refine r_ex rfl rfl ?_
  |refine sk_zero ?_
  |refine sk_succ ?_
  |refine wk_nil ?_
  |refine wk_cons ?_)
 exact fa_n (fun _ _=>rfl) (Pm.ent (fin u)) ⟨_,rfl,by rw[hu,zb];rfl⟩
theorem step_a{a:Nat}{x:HX}{n:Int}(h:Sound x.H)(hn:0≤n∧n≤1000000000000):FnA Tryz.prog 159 [ptr a,.int .i64 n] (hp a x) (fun v As=>∃z:HX,v=.int .i64 (min n.toNat (outN x.H):Nat)∧As=hp a z∧z.H=iterU (min n.toNat (outN x.H)) x.H):=by
 obtain⟨ho,hN⟩:=outN_ok h
 refine fnA_of (fun h=>fn159 (by simp) h) ?_
 repeat' (first
  |(refine k_L ?_;refine a_p rfl ?_)
  |refine a_n ?_
  |(refine k_V ?_;first|refine v_seq ?_|refine v_reg ?_))
 generalize hm:min n.toNat (outN x.H)=mx
 have hm1:mx≤outN x.H:=by omega
 have hm2:(mx:Int)≤n:=by omega
 refine v_mono (Q:=seqA (Jx (fun z:HX=>[(0,.v (ptr a)),(5,.v (.int .i64 mx))]) (fun z=>hp a z) (fun z=>z.H=iterU mx x.H)) (fun _ _ _=>False)) ?_ ?_
 ·refine v_blk ?_
  refine v_loop (fun q:Nat×HX=>[(0,.v (ptr a)),(1,.v (.int .i64 n)),(5,.v (.int .i64 q.1))]) (fun q=>hp a q.2) (fun k q=>k=mx-q.1∧q.1≤mx∧q.2.H=iterU q.1 x.H) ⟨_,(0,x),⟨rfl,rfl,rfl,trivial⟩,Ent.refl _,rfl,Nat.zero_le _,rfl⟩ ?_
  rintro k ⟨j,z⟩ ⟨rfl,hj,hz⟩
  simp only at hj hz
  dsimp only
  have hs:Sound z.H:=by rw[hz];exact iterU_sound j h
  have hp:=out_phase h (j:=j) (by omega)
  rw[←hz]at hp
  have hph:z.hdr.phase=z.H.phase:=rfl
  by_cases e:j=mx
  ·subst e
   by_cases e1:(j:Int)<n
   ·have e0:z.H.phase=0:=hp.2 (by omega)
    repeat' (first
     |(refine k_L ?_;first|refine a_p rfl ?_|(refine k_g ?_;first|refine a_gy rfl rfl ?_|(refine a_gd rfl (fun hb=>?_) (fun hb=>?_)<;>try(exfalso;omega)))|(refine k_l ?_;refine g_l rfl ?_))
     |refine a_n ?_
     |(refine k_V ?_;first|refine v_seq ?_|refine v_reg ?_|refine v_exit ?_|(refine v_cn rfl (fun hb=>?_) (fun hb=>?_)<;>try(exfalso;omega)))
     |refine s_n ?_
     |refine s_e ?_
     |refine b_e ?_)
    exact j_i z hz
   ·repeat' (first
     |(refine k_L ?_;first|refine a_p rfl ?_|(refine k_g ?_;first|refine a_gn rfl rfl ?_|(refine a_gd rfl (fun hb=>?_) (fun hb=>?_)<;>try(exfalso;omega))))
     |refine a_n ?_
     |(refine k_V ?_;first|refine v_seq ?_|refine v_reg ?_|refine v_exit ?_|refine v_cf rfl ?_)
     |refine s_n ?_
     |refine s_e ?_
     |refine b_e ?_)
    exact j_i z hz
  ·have e0:z.H.phase≠0:=fun h'=>by have:=hp.1 h';omega
   repeat' (first
    |(refine k_L ?_;first|(refine k_ad ?_;refine g_ad rfl rfl ?_)|refine a_p rfl ?_|(refine k_g ?_;first|refine a_gy rfl rfl ?_|(refine a_gd rfl (fun hb=>?_) (fun hb=>?_)<;>try(exfalso;omega)))|(refine k_l ?_;refine g_l rfl ?_)|(refine g_c rfl (unit_a hs e0) (fun v As' hq=>?_);obtain⟨u,rfl,hu⟩:=hq))
    |refine a_n ?_
    |(refine k_V ?_;first|refine v_seq ?_|refine v_reg ?_|refine v_bs ?_|refine v_skip ?_|(refine v_cn rfl (fun hb=>?_) (fun hb=>?_)<;>try(exfalso;omega)))
    |refine s_n ?_
    |refine b_n ?_)
   refine⟨mx-(j+1),(j+1,u),by omega,⟨rfl,rfl,rfl,trivial⟩,Pm.ent pmt,rfl,by show j+1≤mx;omega,?_⟩
   show u.H=iterU (j+1) x.H
   rw[iterU_succ,←hz];exact hu
 rintro y S' As' hq
 cases y with
 |ret=>exact hq.elim
 |ext i=>exact hq.elim
 |nrm=>
 obtain⟨z,hl',he',hz⟩:=hq
 refine v_weak _ hl' (VA.ent he' ?_)
 repeat' (first
  |(refine k_L ?_;refine a_p rfl ?_)
  |refine a_n ?_
  |(refine k_V ?_;first|refine v_seq ?_|refine v_reg ?_|refine v_ret ?_))
 exact fa_r (fun _ _=>rfl) (Pm.ent (fin z)) ⟨z,rfl,rfl,hz⟩
theorem l3step_a{a:Nat}{x:HX}{n:Int}(h:Sound x.H)(hn:0≤n∧n≤1000000000000):FnA Tryz.prog 64 [ptr a,.int .i64 n] (hp a x) (fun v As=>∃z:HX,v=.int .i64 (stepN x.H n:Nat)∧As=hp a z∧z.H=x.H.stepH n):=by
 refine fnA_of (fun h=>fn64 (by simp) h) ?_
 unfold stepN Heap.stepH
 by_cases hn0:n=0
 ·rw[if_pos hn0,if_pos hn0]
  repeat' (first
   |(refine k_L ?_;refine a_p rfl ?_)
   |refine a_n ?_
   |(refine k_V ?_;first|refine v_rv ?_|refine v_seq ?_|refine v_reg ?_|(refine v_cd rfl (fun hb=>?_) (fun hb=>?_)<;>try(exfalso;omega)))
   |refine s_r ?_)
  exact fa_r (fun _ _=>rfl) (Pm.ent (fin x)) ⟨x,rfl,rfl,rfl⟩
 ·rw[if_neg hn0,if_neg hn0]
  unfold stepN
  rw[if_neg hn0]
  have hb:=beginH_ok h
  obtain⟨ho,hN⟩:=outN_ok hb
  have hxp:x.hdr.phase=x.H.phase:=rfl
  refine v_seq ?_
  repeat' (first
   |(refine k_L ?_;refine a_p rfl ?_)
   |refine a_n ?_
   |(refine k_V ?_;refine v_reg ?_)
   |refine s_n ?_)
  refine g_cut (fun _:Unit=>[(0,.v (ptr a)),(1,.v (.int .i64 n))]) (fun _=>hp a x) (fun _=>True) ?_ (fun _ _=>?_)
  ·repeat' (first
    |(refine k_L ?_;refine a_p rfl ?_)
    |refine a_n ?_
    |(refine k_V ?_;first|refine v_seq ?_|refine v_reg ?_|refine v_skip ?_|(refine v_cd rfl (fun hb=>?_) (fun hb=>?_)<;>try(exfalso;omega)))
    |refine s_n ?_)
   exact j_i () trivial
  refine g_cut (fun z:HX=>[(0,.v (ptr a)),(1,.v (.int .i64 n))]) (fun z=>hp a z) (fun z=>z.H=x.H.beginH) ?_ (fun w hw=>?_)
  ·unfold Heap.beginH
   repeat' (first
    |(refine k_L ?_;first|refine a_p rfl ?_|(refine k_l ?_;refine g_l rfl ?_)|(refine g_c rfl (l3begin_a (x:=x)) (fun v As' hq=>?_);subst hq))
    |refine a_n ?_
    |(refine k_V ?_;first|refine v_seq ?_|refine v_reg ?_|refine v_skip ?_|(refine v_cd rfl (fun hb=>?_) (fun hb=>?_)<;>try(exfalso;omega)))
    |refine s_n ?_)
   ·exact j_i (x.ph 1 0) (by rw[if_pos (show x.H.phase=0 by omega)];exact ph_H rfl)
   ·exact j_i x (by rw[if_neg (show ¬x.H.phase=0 by omega)])
  rw[←hw]
  rw[←hw]at hb ho hN
  repeat' (first
   |(refine k_L ?_;refine a_p rfl ?_)
   |refine a_n ?_
   |(refine k_V ?_;first|refine v_seq ?_|refine v_reg ?_))
  generalize hm:min n.toNat (outN w.H)=mx
  have hm1:mx≤outN w.H:=by omega
  have hm2:(mx:Int)≤n:=by omega
  refine v_mono (Q:=seqA (Jx (fun z:HX=>[(0,.v (ptr a)),(5,.v (.int .i64 mx))]) (fun z=>hp a z) (fun z=>z.H=iterU mx w.H)) (fun _ _ _=>False)) ?_ ?_
  ·refine v_blk ?_
   refine v_loop (fun q:Nat×HX=>[(0,.v (ptr a)),(1,.v (.int .i64 n)),(5,.v (.int .i64 q.1))]) (fun q=>hp a q.2) (fun k q=>k=mx-q.1∧q.1≤mx∧q.2.H=iterU q.1 w.H) ⟨_,(0,w),⟨rfl,rfl,rfl,trivial⟩,Ent.refl _,rfl,Nat.zero_le _,rfl⟩ ?_
   rintro k ⟨j,z⟩ ⟨rfl,hj,hz⟩
   simp only at hj hz
   dsimp only
   have hs:Sound z.H:=by rw[hz];exact iterU_sound j hb
   have hp:=out_phase hb (j:=j) (by omega)
   rw[←hz]at hp
   have hph:z.hdr.phase=z.H.phase:=rfl
   by_cases e:j=mx
   ·subst e
    by_cases e1:(j:Int)<n
    ·have e0:z.H.phase=0:=hp.2 (by omega)
     repeat' (first
      |(refine k_L ?_;first|refine a_p rfl ?_|(refine k_g ?_;first|refine a_gy rfl rfl ?_|(refine a_gd rfl (fun hb=>?_) (fun hb=>?_)<;>try(exfalso;omega)))|(refine k_l ?_;refine g_l rfl ?_))
      |refine a_n ?_
      |(refine k_V ?_;first|refine v_seq ?_|refine v_reg ?_|refine v_exit ?_|(refine v_cn rfl (fun hb=>?_) (fun hb=>?_)<;>try(exfalso;omega)))
      |refine s_n ?_
      |refine s_e ?_
      |refine b_e ?_)
     exact j_i z hz
    ·repeat' (first
      |(refine k_L ?_;first|refine a_p rfl ?_|(refine k_g ?_;first|refine a_gn rfl rfl ?_|(refine a_gd rfl (fun hb=>?_) (fun hb=>?_)<;>try(exfalso;omega))))
      |refine a_n ?_
      |(refine k_V ?_;first|refine v_seq ?_|refine v_reg ?_|refine v_exit ?_|refine v_cf rfl ?_)
      |refine s_n ?_
      |refine s_e ?_
      |refine b_e ?_)
     exact j_i z hz
   ·have e0:z.H.phase≠0:=fun h'=>by have:=hp.1 h';omega
    repeat' (first
     |(refine k_L ?_;first|(refine k_ad ?_;refine g_ad rfl rfl ?_)|refine a_p rfl ?_|(refine k_g ?_;first|refine a_gy rfl rfl ?_|(refine a_gd rfl (fun hb=>?_) (fun hb=>?_)<;>try(exfalso;omega)))|(refine k_l ?_;refine g_l rfl ?_)|(refine g_c rfl (l3unit_a hs e0) (fun v As' hq=>?_);obtain⟨u,rfl,hu⟩:=hq))
     |refine a_n ?_
     |(refine k_V ?_;first|refine v_seq ?_|refine v_reg ?_|refine v_bs ?_|refine v_skip ?_|(refine v_cn rfl (fun hb=>?_) (fun hb=>?_)<;>try(exfalso;omega)))
     |refine s_n ?_
     |refine b_n ?_)
    refine⟨mx-(j+1),(j+1,u),by omega,⟨rfl,rfl,rfl,trivial⟩,Pm.ent pmt,rfl,by show j+1≤mx;omega,?_⟩
    show u.H=iterU (j+1) w.H
    rw[iterU_succ,←hz];exact hu
  rintro y S' As' hq
  cases y with
  |ret=>exact hq.elim
  |ext i=>exact hq.elim
  |nrm=>
  obtain⟨z,hl',he',hz⟩:=hq
  refine v_weak _ hl' (VA.ent he' ?_)
  repeat' (first
   |(refine k_L ?_;refine a_p rfl ?_)
   |refine a_n ?_
   |(refine k_V ?_;first|refine v_seq ?_|refine v_reg ?_|refine v_ret ?_))
  exact fa_r (fun _ _=>rfl) (Pm.ent (fin z)) ⟨z,rfl,rfl,hz⟩
theorem used_b{z:HX}(h:Sound z.H):0≤z.hdr.used∧z.hdr.used≤4000:=by
 have h1:=h.r1.room
 have h2:=h.r3
 have h3:=unitsN_nn z.H.cells
 have e1:z.hdr.used=z.H.used:=rfl
 unfold R3 at h2
 omega
def HX.frc(x:HX)(n:Int):HX:={x with forced:=n}
theorem l5room_a{a:Nat}{x:HX}{u:Int}(h:Sound x.H)(hu:0≤u∧u≤201):FnA Tryz.prog 90 [ptr a,.int .i64 u] (hp a x) (fun v As=>∃z:HX,v=.bool (decide ((x.H.fitsH u).used+u≤(x.H.fitsH u).room))∧As=hp a z∧z.H=x.H.fitsH u):=by
 refine fnA_of (fun h=>fn90 (by simp) h) ?_
 have e1:x.hdr.used=x.H.used:=rfl
 have e2:x.hdr.room=x.H.room:=rfl
 have e3:x.hdr.forced=x.H.forced:=rfl
 have h1:=h.r1.room
 have h2:=h.r3.2
 have h3:=h.r1.forced
 have h4:0≤x.H.used:=by have:=h.r3.1;have:=unitsN_nn x.H.cells;omega
 by_cases hf:x.H.used+u≤x.H.room
 ·have e:x.H.fitsH u=x.H:=by unfold Heap.fitsH;rw[if_pos hf]
  rw[e]
  repeat' (first
   |(refine k_L ?_;first|(refine k_ad ?_;refine g_ad rfl rfl ?_)|refine a_p rfl ?_|(refine k_l ?_;refine g_l rfl ?_))
   |refine a_n ?_
   |(refine k_V ?_;first|refine v_rv ?_|refine v_seq ?_|refine v_reg ?_|refine v_dreg ?_|(refine v_cd rfl (fun hb=>?_) (fun hb=>?_)<;>try(exfalso;omega)))
   |refine s_r ?_)
  exact fa_r (fun _ _=>rfl) (Pm.ent pmt) ⟨x,by simp[hf],rfl,rfl⟩
 ·have fr:∀n:Int,(x.frc n).H={x.H with forced:=n}:=fun n=>rfl
  have end_:∀(z:HX) (F:Heap),z.H=F→(z.hdr.used+u≤z.hdr.room↔F.used+u≤F.room):=fun z F e=>by rw[←e];exact Iff.rfl
  have e:x.H.fitsH u=(x.frc (if x.H.forced<1000000000 then x.H.forced+1 else x.H.forced)).H.roundH:=by unfold Heap.fitsH;rw[if_neg hf];rfl
  rw[e]
  by_cases hc:x.H.forced<1000000000
  ·rw[if_pos hc]
   repeat' (first
    |(refine k_L ?_;first|(refine k_ad ?_;refine g_ad rfl rfl ?_)|refine a_p rfl ?_|(refine k_l ?_;refine g_l rfl ?_)|(refine k_st ?_;refine g_st rfl rfl rfl rfl ?_)|(refine g_c rfl (l3round_a (x:=x.frc (x.H.forced+1)) (by rw[fr];exact forced_sound h (by omega))) (fun v As' hq=>?_);obtain⟨z,rfl,hz⟩:=hq;have zb:=used_b (z:=z) (by rw[hz];exact(roundH_ok (by rw[fr];exact forced_sound h (by omega))).1)))
    |refine a_n ?_
    |(refine k_V ?_;first|refine v_seq ?_|refine v_reg ?_|refine v_dreg ?_|refine v_ret ?_|refine v_skip ?_|(refine v_cd rfl (fun hb=>?_) (fun hb=>?_)<;>try(exfalso;omega))))
   all_goals exact fa_r (fun _ _=>rfl) (Pm.ent pmt) ⟨z,by congr 1;rw[Bool.eq_iff_iff];simp only[decide_eq_true_eq];exact end_ z _ hz,rfl,hz⟩
  ·rw[if_neg hc]
   repeat' (first
    |(refine k_L ?_;first|(refine k_ad ?_;refine g_ad rfl rfl ?_)|refine a_p rfl ?_|(refine k_l ?_;refine g_l rfl ?_)|(refine g_c rfl (l3round_a (x:=x) h) (fun v As' hq=>?_);obtain⟨z,rfl,hz⟩:=hq;have zb:=used_b (z:=z) (by rw[hz];exact(roundH_ok h).1)))
    |refine a_n ?_
    |(refine k_V ?_;first|refine v_seq ?_|refine v_reg ?_|refine v_dreg ?_|refine v_ret ?_|refine v_skip ?_|(refine v_cd rfl (fun hb=>?_) (fun hb=>?_)<;>try(exfalso;omega))))
   all_goals exact fa_r (fun _ _=>rfl) (Pm.ent pmt) ⟨z,by congr 1;rw[Bool.eq_iff_iff];simp only[decide_eq_true_eq];exact end_ z _ hz,rfl,hz⟩
theorem step_begun{H:Heap}(hp:H.phase=0){n:Int}(hn:n≠0):(H.enterH 1).stepH n=H.stepH n:=by
 have e1:(H.enterH 1).beginH=H.enterH 1:=by unfold Heap.beginH;rw[if_neg (by show ¬(1:Int)=0;omega)]
 have e2:H.beginH=H.enterH 1:=by unfold Heap.beginH;rw[if_pos hp]
 unfold Heap.stepH stepN
 simp only[if_neg hn,e1,e2]
theorem l5pace_a{a:Nat}{x:HX}{u:Int}(h:Sound x.H)(hu:0≤u∧u≤201):FnA Tryz.prog 93 [ptr a,.int .i64 u] (hp a x) (fun v As=>∃z:HX,As=hp a z∧z.H=x.H.paceH u):=by
 refine fnA_of (fun h=>fn93 (by simp) h) ?_
 have e1:x.hdr.used=x.H.used:=rfl
 have e2:x.hdr.per=x.H.per:=rfl
 have e3:x.hdr.start=x.H.start:=rfl
 have e4:x.hdr.phase=x.H.phase:=rfl
 have h1:=h.r1.per
 have hm:0≤x.H.per*u∧x.H.per*u≤64*201:=⟨Int.mul_nonneg h1.1 hu.1,Int.mul_le_mul h1.2 hu.2 hu.1 (by omega)⟩
 unfold Heap.paceH
 by_cases c1:x.H.per=0∨u=0
 ·rw[if_pos c1]
  repeat' (first
   |(refine k_L ?_;first|refine a_p rfl ?_|(refine k_g ?_;first|refine a_gy rfl rfl ?_|refine a_gn rfl rfl ?_|(refine a_gd rfl (fun hb=>?_) (fun hb=>?_)<;>try(exfalso;omega)))|(refine k_l ?_;refine g_l rfl ?_))
   |refine a_n ?_
   |(refine k_V ?_;first|refine v_seq ?_|refine v_reg ?_|refine v_ret ?_|refine v_ct rfl ?_|(refine v_cd rfl (fun hb=>?_) (fun hb=>?_)<;>try(exfalso;omega)))
   |refine s_r ?_)
  all_goals first
   |exact fa_n (fun _ _=>rfl) (Pm.ent pmt) ⟨x,rfl,rfl⟩
   |(exfalso;omega)
 ·rw[if_neg c1]
  have c2:¬x.H.per=0:=fun e=>c1 (.inl e)
  have c3:¬u=0:=fun e=>c1 (.inr e)
  have hn:x.H.per*u≠0:=fun e=>by
   rcases Int.mul_eq_zero.1 e with e|e
   ·exact c2 e
   ·exact c3 e
  by_cases c4:x.H.phase=0
  ·by_cases c5:x.H.used≤x.H.start
   ·rw[if_pos ⟨c4,c5⟩]
    repeat' (first
     |(refine k_L ?_;first|refine a_p rfl ?_|(refine k_g ?_;first|refine a_gy rfl rfl ?_|(refine a_gd rfl (fun hb=>?_) (fun hb=>?_)<;>try(exfalso;omega)))|(refine k_l ?_;refine g_l rfl ?_))
     |refine a_n ?_
     |(refine k_V ?_;first|refine v_seq ?_|refine v_reg ?_|refine v_dreg ?_|refine v_ret ?_|refine v_skip ?_|(refine v_cd rfl (fun hb=>?_) (fun hb=>?_)<;>try(exfalso;omega)))
     |refine s_r ?_)
    all_goals first
     |exact fa_n (fun _ _=>rfl) (Pm.ent pmt) ⟨x,rfl,rfl⟩
     |(exfalso;omega)
   ·rw[if_neg (fun e=>c5 e.2)]
    have pb:(x.ph 1 0).H=x.H.enterH 1:=ph_H rfl
    have hsb:Sound (x.ph 1 0).H:=by rw[pb];exact begin_sound h c4
    have hm2:0≤(x.ph 1 0).hdr.per*u∧(x.ph 1 0).hdr.per*u≤64*201:=hm
    repeat' (first
     |(refine k_L ?_;first|(refine k_ml ?_;refine g_ml rfl rfl ?_)|refine a_p rfl ?_|(refine k_g ?_;first|refine a_gy rfl rfl ?_|(refine a_gd rfl (fun hb=>?_) (fun hb=>?_)<;>try(exfalso;omega)))|(refine k_l ?_;refine g_l rfl ?_)|(refine g_c rfl (l3begin_a (x:=x)) (fun v As' hq=>?_);subst hq))
     |refine a_n ?_
     |(refine k_V ?_;first|refine v_seq ?_|refine v_reg ?_|refine v_dreg ?_|refine v_skip ?_|(refine v_cd rfl (fun hb=>?_) (fun hb=>?_)<;>try(exfalso;omega))))
    refine g_c rfl (l3step_a (x:=x.ph 1 0) (n:=(x.ph 1 0).hdr.per*u) hsb (by omega)) (fun v As' hq=>?_)
    obtain⟨z,rfl,rfl,hz⟩:=hq
    repeat' (first
     |(refine k_L ?_;first|(refine k_ad ?_;refine g_ad rfl rfl ?_)|(refine k_su ?_;refine g_su rfl rfl ?_)|(refine k_ml ?_;refine g_ml rfl rfl ?_)|refine a_p rfl ?_|(refine k_g ?_;first|refine a_gy rfl rfl ?_|refine a_gn rfl rfl ?_|refine a_gu rfl ?_|(refine a_gd rfl (fun hb=>?_) (fun hb=>?_)<;>try(exfalso;omega))|(refine a_ge rfl (fun hb=>?_) (fun hb=>?_)<;>try(exfalso;omega))|(refine a_gne rfl (fun hb=>?_) (fun hb=>?_)<;>try(exfalso;omega))|(refine a_gnd rfl (fun hb=>?_) (fun hb=>?_)<;>try(exfalso;omega)))|(refine k_l ?_;refine g_l rfl ?_)|(refine k_i ?_;refine g_i rfl rfl ?_)|(refine k_ls ?_;refine g_ls rfl ?_)|(refine k_st ?_;first|refine g_st rfl rfl rfl rfl ?_|refine g_sw rfl rfl rfl rfl (Nat.le_of_ble_eq_true rfl) ?_)|(refine k_al ?_;refine a_al ?_)|(refine k_bx ?_;refine a_bx rfl rfl ?_)|(refine k_bl ?_;refine a_bl rfl ?_)|(refine k_p ?_;first|(refine a_pd rfl (fun hb=>?_) (fun hb=>?_)<;>try(exfalso;omega))|(refine a_pe rfl (fun hb=>?_) (fun hb=>?_)<;>try(exfalso;omega))|(refine a_pne rfl (fun hb=>?_) (fun hb=>?_)<;>try(exfalso;omega))|(refine a_pnd rfl (fun hb=>?_) (fun hb=>?_)<;>try(exfalso;omega))))
     |refine a_n ?_
     |(refine k_V ?_;first|refine v_rv ?_|refine v_seq ?_|refine v_reg ?_|refine v_dreg ?_|refine v_zreg ?_|refine v_bs ?_|refine v_br ?_|refine v_bd ?_|refine v_bc ?_|refine v_bk ?_|refine v_bb ?_|refine v_ret ?_|refine v_exit ?_|refine v_skip ?_|refine v_ct rfl ?_|refine v_cf rfl ?_|(refine v_cd rfl (fun hb=>?_) (fun hb=>?_)<;>try(exfalso;omega))|(refine v_ce rfl (fun hb=>?_) (fun hb=>?_)<;>try(exfalso;omega))|(refine v_cn rfl (fun hb=>?_) (fun hb=>?_)<;>try(exfalso;omega))|(refine v_cnd rfl (fun hb=>?_) (fun hb=>?_)<;>try(exfalso;omega)))
     |refine s_n ?_
     |refine s_r ?_
     |refine s_e ?_
     |refine b_n ?_
     |refine b_r ?_
     |refine b_e ?_
     |refine b_o rfl ?_
     |refine r_rt ?_
     |refine r_bk rfl ?_
     |refine r_ex rfl rfl ?_
     |refine sk_zero ?_
     |refine sk_succ ?_
     |refine wk_nil ?_
     |refine wk_cons ?_)
    exact fa_n (fun _ _=>rfl) (Pm.ent pmt) ⟨z,rfl,by rw[hz,pb];exact step_begun c4 hn⟩
  ·rw[if_neg (fun e=>c4 e.1)]
   repeat' (first
    |(refine k_L ?_;first|(refine k_ml ?_;refine g_ml rfl rfl ?_)|refine a_p rfl ?_|(refine k_g ?_;first|refine a_gy rfl rfl ?_|(refine a_gd rfl (fun hb=>?_) (fun hb=>?_)<;>try(exfalso;omega)))|(refine k_l ?_;refine g_l rfl ?_)|(refine g_c rfl (l3step_a (x:=x) (n:=x.H.per*u) h (by omega)) (fun v As' hq=>?_);obtain⟨z,rfl,rfl,hz⟩:=hq))
    |refine a_n ?_
    |(refine k_V ?_;first|refine v_seq ?_|refine v_reg ?_|refine v_skip ?_|(refine v_cd rfl (fun hb=>?_) (fun hb=>?_)<;>try(exfalso;omega))))
   all_goals exact fa_n (fun _ _=>rfl) (Pm.ent pmt) ⟨z,rfl,hz⟩
theorem out0{H:Heap}(h:Sound H):outN H=0↔H.phase=0:=by
 have:=out_phase h (j:=0) (by omega)
 constructor
 ·intro e;exact this.2 e.symm
 ·intro e;exact(this.1 e).symm
theorem begin_on{H:Heap}(hp:H.phase≠0):H.beginH=H:=by unfold Heap.beginH;rw[if_neg hp]
noncomputable def Cell.msr(c:Cell):Int:=c.pairs.length+(if c.last=1 then 1 else 0)
end Go.Proofs.YtpleoapljeffiaaGreatDoor.E
