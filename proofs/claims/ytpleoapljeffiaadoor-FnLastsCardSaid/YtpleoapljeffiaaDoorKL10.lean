/- A part of the proof. Conditions: none. -/
import Derived.Test.YtpleoapljeffiaaDoorKL9
set_option linter.unusedVariables false
set_option linter.unusedSimpArgs false
set_option maxHeartbeats 8000000
set_option maxRecDepth 100000
namespace Go.Proofs.YtpleoapljeffiaaDoor.E
open Go
open Classical
theorem unit1_a{a:Nat}{x:HX}(h:Sound x.H)(hph:x.H.phase=1):FnA Tryd.prog 65 [ptr a] (hp a x) (fun v As=>∃z:HX,As=hp a z∧z.H=x.H.rootsU):=by
 obtain⟨q1,q2,q3⟩:=sound_gray h
 have hl:=x.len
 have hnc:x.hdr.nc=x.xs.length:=rfl
 have hph':x.hdr.phase=1:=hph
 have hhd:x.hdr.hand=x.H.hand:=rfl
 have h0:=h.r1.hand
 refine fnA_of (fun h=>fn65 (by simp) h) ?_
 unfold Heap.rootsU
 by_cases hh:x.H.hand=x.H.cells.length
 ·rw[if_pos hh]
  repeat' (first
   |(refine k_L ?_;first|refine a_p rfl ?_|(refine k_l ?_;refine g_l rfl ?_)|(refine g_c rfl (enter_a (x:=x)) (fun v As' hq=>?_);subst hq))
   |refine a_n ?_
   |(refine k_V ?_;first|refine v_seq ?_|refine v_reg ?_|refine v_bs ?_|refine v_ret ?_|(refine v_cd rfl (fun hb=>?_) (fun hb=>?_)<;>try(exfalso;omega)))
   |refine s_r ?_
   |refine b_r ?_)
  exact fa_r (fun _ _=>rfl) (Pm.ent (fin (x.enter 2))) ⟨_,rfl,enter_H⟩
 ·rw[if_neg hh]
  obtain⟨k,hk⟩:=Int.eq_ofNat_of_zero_le h0.1
  have hk':x.hdr.hand=k:=hk
  obtain⟨y,gy,gc⟩:=HX.at (x:=x) (i:=k) (by omega)
  have gk:=HX.gc gy
  have gy':x.xs[x.hdr.hand.toNat]?=some y:=by rw[hk'];exact gy
  rw[hk,gk]
  by_cases hr:Root y.c
  ·rw[if_pos hr]
   repeat' (first
    |(refine k_L ?_;first|refine a_p rfl ?_|(refine k_l ?_;refine g_l rfl ?_)|(refine k_i ?_;refine g_i rfl rfl ?_)|(refine k_ls ?_;refine g_ls rfl ?_)|(refine k_q ?_;refine a_q rfl (fun m hm=>qt_e (root_q (y:=y)) (congrArg Value.bool (decide_eq_true hr))) ?_))
    |refine a_n ?_
    |(refine k_V ?_;first|refine v_seq ?_|refine v_reg ?_|refine v_dreg ?_|refine v_bs ?_|refine v_skip ?_|refine v_ct rfl ?_|(refine v_cd rfl (fun hb=>?_) (fun hb=>?_)<;>try(exfalso;omega))))
   rw[hk']
   refine g_c rfl (shadeH_a (x:=x) (i:=k) (by omega) q1) (fun v As' hq=>?_)
   obtain⟨z,rfl,hz,hzr⟩:=hq
   obtain⟨s,_⟩:=shadeH_ok (H:=x.H) (i:=k) (by omega) (by rw[gk];exact hr.1)
   rw[←hz]at s
   have zh:z.hand=k:=by have:=s.hand;rw[hk]at this;exact this
   have zh':z.hdr.hand=k:=zh
   repeat' (first
    |(refine k_L ?_;first|(refine k_ad ?_;refine g_ad rfl rfl ?_)|refine a_p rfl ?_|(refine k_l ?_;refine g_l rfl ?_)|(refine k_st ?_;refine g_st rfl rfl rfl rfl ?_))
    |refine a_n ?_
    |(refine k_V ?_;refine v_reg ?_)
    |refine b_n ?_)
   refine fa_n (fun _ _=>rfl) (Pm.ent (fin {z with hand:=z.hand+1})) ⟨_,rfl,?_⟩
   show({z.H with hand:=z.hand+1}:Heap)=_
   rw[zh,hz];rfl
  ·rw[if_neg hr]
   repeat' (first
    |(refine k_L ?_;first|(refine k_ad ?_;refine g_ad rfl rfl ?_)|refine a_p rfl ?_|(refine k_l ?_;refine g_l rfl ?_)|(refine k_i ?_;refine g_i rfl rfl ?_)|(refine k_ls ?_;refine g_ls rfl ?_)|(refine k_st ?_;refine g_st rfl rfl rfl rfl ?_)|(refine k_q ?_;refine a_q rfl (fun m hm=>qt_e (root_q (y:=y)) (congrArg Value.bool (decide_eq_false hr))) ?_))
    |refine a_n ?_
    |(refine k_V ?_;first|refine v_seq ?_|refine v_reg ?_|refine v_dreg ?_|refine v_bs ?_|refine v_skip ?_|refine v_cf rfl ?_|(refine v_cd rfl (fun hb=>?_) (fun hb=>?_)<;>try(exfalso;omega)))
    |refine b_n ?_)
   refine fa_n (fun _ _=>rfl) (Pm.ent (fin {x with hand:=x.hand+1})) ⟨_,rfl,?_⟩
   show({x.H with hand:=x.hand+1}:Heap)=_
   rw[←hk];rfl
theorem unit2_a{a:Nat}{x:HX}(h:Sound x.H)(hph:x.H.phase=2):FnA Tryd.prog 65 [ptr a] (hp a x) (fun v As=>∃z:HX,As=hp a z∧z.H=x.H.markU):=by
 have hph':x.hdr.phase=2:=hph
 refine fnA_of (fun h=>fn65 (by simp) h) ?_
 repeat' (first
  |(refine k_L ?_;first|refine a_p rfl ?_|(refine k_l ?_;refine g_l rfl ?_)|(refine g_c rfl (mark_a h hph) (fun v As' hq=>?_);obtain⟨z,rfl,hz⟩:=hq))
  |refine a_n ?_
  |(refine k_V ?_;first|refine v_seq ?_|refine v_reg ?_|refine v_bs ?_|(refine v_cd rfl (fun hb=>?_) (fun hb=>?_)<;>try(exfalso;omega)))
  |refine b_n ?_)
 exact fa_n (fun _ _=>rfl) (Pm.ent (fin z)) ⟨_,rfl,hz⟩
theorem unit4_a{a:Nat}{x:HX}(h:Sound x.H)(hph:x.H.phase=4):FnA Tryd.prog 65 [ptr a] (hp a x) (fun v As=>∃z:HX,As=hp a z∧z.H=x.H.moveU):=by
 have hph':x.hdr.phase=4:=hph
 refine fnA_of (fun h=>fn65 (by simp) h) ?_
 repeat' (first
  |(refine k_L ?_;first|refine a_p rfl ?_|(refine k_l ?_;refine g_l rfl ?_)|(refine g_c rfl (move_a h hph) (fun v As' hq=>?_);obtain⟨z,rfl,hz⟩:=hq))
  |refine a_n ?_
  |(refine k_V ?_;first|refine v_seq ?_|refine v_reg ?_|refine v_bs ?_|(refine v_cd rfl (fun hb=>?_) (fun hb=>?_)<;>try(exfalso;omega)))
  |refine b_n ?_)
 exact fa_n (fun _ _=>rfl) (Pm.ent (fin z)) ⟨_,rfl,hz⟩
theorem unit3_a{a:Nat}{x:HX}(h:Sound x.H)(hph:x.H.phase=3):FnA Tryd.prog 65 [ptr a] (hp a x) (fun v As=>∃z:HX,As=hp a z∧z.H=x.H.sweepU):=by
 obtain⟨q1,q2,q3⟩:=sound_gray h
 have hl:=x.len
 have hnc:x.hdr.nc=x.xs.length:=rfl
 have hph':x.hdr.phase=3:=hph
 have hhd:x.hdr.hand=x.H.hand:=rfl
 have h0:=h.r1.hand
 refine fnA_of (fun h=>fn65 (by simp) h) ?_
 unfold Heap.sweepU
 by_cases hh:x.H.hand=x.H.cells.length
 ·rw[if_pos hh]
  repeat' (first
   |(refine k_L ?_;first|refine a_p rfl ?_|(refine k_l ?_;refine g_l rfl ?_)|(refine g_c rfl (enter_a (x:=x)) (fun v As' hq=>?_);subst hq))
   |refine a_n ?_
   |(refine k_V ?_;first|refine v_seq ?_|refine v_reg ?_|refine v_bs ?_|refine v_ret ?_|(refine v_cd rfl (fun hb=>?_) (fun hb=>?_)<;>try(exfalso;omega)))
   |refine s_r ?_
   |refine b_r ?_)
  exact fa_r (fun _ _=>rfl) (Pm.ent (fin (x.enter 4))) ⟨_,rfl,enter_H⟩
 ·rw[if_neg hh]
  obtain⟨k,hk⟩:=Int.eq_ofNat_of_zero_le h0.1
  have hk':x.hdr.hand=k:=hk
  obtain⟨y,gy,gc⟩:=HX.at (x:=x) (i:=k) (by omega)
  have gk:=HX.gc gy
  have gy':x.xs[x.hdr.hand.toNat]?=some y:=by rw[hk'];exact gy
  have hpl:=h.r2.pl (List.mem_of_getElem? gc)
  have hus:=h.r3
  have hnn:=pairsN_nonneg x.H.cells
  have hun:=pairsN_units h.r2
  have hrm:=h.r1.room
  unfold R3 at hus
  have hud:x.hdr.used=x.H.used:=rfl
  have hyu:y.c.units≤201∧0≤y.c.units:=by unfold Cell.units;split<;>omega
  rw[hk,gk]
  repeat' (first
   |(refine k_L ?_;first|(refine k_ad ?_;refine g_ad rfl rfl ?_)|(refine k_su ?_;refine g_su rfl rfl ?_)|refine a_p rfl ?_|(refine k_g ?_;first|refine a_gy rfl rfl ?_|refine a_gn rfl rfl ?_|(refine a_gd rfl (fun hb=>?_) (fun hb=>?_)<;>try(exfalso;omega)))|(refine k_l ?_;refine g_l rfl ?_)|(refine k_i ?_;refine g_i rfl rfl ?_)|(refine k_ls ?_;refine g_ls rfl ?_)|(refine k_st ?_;refine g_st rfl rfl rfl rfl ?_)|(refine k_q ?_;refine a_q rfl (fun m hm=>units_q (y:=y) (by omega)) ?_)|(refine a_c0 CS.zero gy' rfl rfl rfl rfl rfl rfl rfl ?_))
   |refine a_n ?_
   |(refine k_V ?_;first|refine v_seq ?_|refine v_reg ?_|refine v_dreg ?_|refine v_bs ?_|refine v_skip ?_|refine v_cf rfl ?_|(refine v_cd rfl (fun hb=>?_) (fun hb=>?_)<;>try(exfalso;omega)))
   |refine b_n ?_)
  ·refine fa_n (fun _ _=>rfl) (Pm.ent (fin {x with used:=x.used-y.c.units,xs:=x.xs.set x.hdr.hand.toNat CS.zero,hand:=x.hand+1})) ⟨_,rfl,?_⟩
   have eu:y.c.units=1+y.c.pairs.length:=by unfold Cell.units;rw[if_pos (by assumption)]
   rw[if_pos ⟨by assumption,by assumption⟩]
   show({x.H with used:=x.used-y.c.units,cells:=(x.xs.set x.hdr.hand.toNat CS.zero).map (·.c),hand:=x.hand+1}:Heap)=_
   rw[eu,List.map_set,hk',show x.hand=k from hk]
   rfl
  all_goals refine fa_n (fun _ _=>rfl) (Pm.ent (fin {x with xs:=x.xs.set x.hdr.hand.toNat (y.s_color 0),hand:=x.hand+1})) ⟨_,rfl,?_⟩
  all_goals rw[if_neg (fun h=>by first|exact absurd h.1 (by assumption)|exact absurd h.2 (by assumption))]
  all_goals show({x.H with cells:=(x.xs.set x.hdr.hand.toNat (y.s_color 0)).map (·.c),hand:=x.hand+1}:Heap)=_
  all_goals rw[List.map_set,hk',show x.hand=k from hk]
  all_goals rfl
theorem unit5_a{a:Nat}{x:HX}(h:Sound x.H)(hph:x.H.phase=5):FnA Tryd.prog 65 [ptr a] (hp a x) (fun v As=>∃z:HX,As=hp a z∧z.H=x.H.mendU):=by
 obtain⟨q1,q2,q3⟩:=sound_gray h
 have hl:=x.len
 have hnc:x.hdr.nc=x.xs.length:=rfl
 have hph':x.hdr.phase=5:=hph
 have hhd:x.hdr.hand=x.H.hand:=rfl
 have hsb:x.hdr.sub=x.H.sub:=rfl
 have h0:=h.r1.hand
 have hs0:=h.r1.sub
 refine fnA_of (fun h=>fn65 (by simp) h) ?_
 unfold Heap.mendU
 by_cases hh:x.H.hand=x.H.cells.length
 ·rw[if_pos hh]
  repeat' (first
   |(refine k_L ?_;first|refine a_p rfl ?_|(refine k_l ?_;refine g_l rfl ?_)|(refine g_c rfl (enter_a (x:=x)) (fun v As' hq=>?_);subst hq))
   |refine a_n ?_
   |(refine k_V ?_;first|refine v_seq ?_|refine v_reg ?_|refine v_bs ?_|refine v_ret ?_|(refine v_cd rfl (fun hb=>?_) (fun hb=>?_)<;>try(exfalso;omega)))
   |refine s_r ?_
   |refine b_r ?_)
  exact fa_r (fun _ _=>rfl) (Pm.ent (fin (x.enter 6))) ⟨_,rfl,enter_H⟩
 ·rw[if_neg hh]
  obtain⟨k,hk⟩:=Int.eq_ofNat_of_zero_le h0.1
  have hk':x.hdr.hand=k:=hk
  obtain⟨y,gy,gc⟩:=HX.at (x:=x) (i:=k) (by omega)
  have gk:=HX.gc gy
  have gy':x.xs[x.hdr.hand.toNat]?=some y:=by rw[hk'];exact gy
  have hpl:=h.r2.pl (List.mem_of_getElem? gc)
  rw[hk,gk]
  by_cases hlt:x.H.sub<y.c.pairs.length
  ·obtain⟨s,hs⟩:=Int.eq_ofNat_of_zero_le hs0.1
   have hs':x.hdr.sub=s:=hs
   obtain⟨p,gp⟩:∃p,y.c.pairs[s]?=some p:=⟨_,List.getElem?_eq_getElem (by omega)⟩
   have gp':y.c.pairs[x.hdr.sub.toNat]?=some p:=by rw[hs'];exact gp
   rw[hs,show((s:Int)).toNat=s by omega,gp]
   simp only
   obtain⟨f1,f2,_⟩:=h.r4.pairs k y.c gc s p gp
   have gy1:(x.xs.set x.hdr.hand.toNat (y.s_pair x.hdr.sub.toNat (p.s_key (x.hs.H.lead p.key))))[x.hdr.hand.toNat]?=some (y.s_pair x.hdr.sub.toNat (p.s_key (x.hs.H.lead p.key))):=by
    rw[List.getElem?_set,if_pos rfl,if_pos (List.getElem?_eq_some_iff.1 gy').1]
   have gp1:(y.s_pair x.hdr.sub.toNat (p.s_key (x.hs.H.lead p.key))).c.pairs[x.hdr.sub.toNat]?=some (p.s_key (x.hs.H.lead p.key)):=by
    show(y.c.pairs.set x.hdr.sub.toNat _)[x.hdr.sub.toNat]?=_
    rw[List.getElem?_set,if_pos rfl,if_pos (List.getElem?_eq_some_iff.1 gp').1]
   repeat' (first
    |(refine k_L ?_;first|refine a_p rfl ?_|(refine k_l ?_;refine g_l rfl ?_)|(refine k_i ?_;refine g_i rfl rfl ?_)|(refine k_ls ?_;refine g_ls rfl ?_)|(refine k_st ?_;refine g_st rfl rfl rfl rfl ?_)|(refine k_q ?_;first|refine a_q rfl (fun m hm=>lead_q (x:=x.hs) (w:=p.key) (ph_g (x:=x) hm) (fun hk=>f1.at hk)) ?_|refine a_q rfl (fun m hm=>lead_q (x:=x.hs) (w:=p.val) (ph_g (x:=x) hm) (fun hk=>f2.at hk)) ?_))
    |refine a_n ?_
    |(refine k_V ?_;first|refine v_seq ?_|refine v_reg ?_|refine v_dreg ?_|refine v_bs ?_|refine v_skip ?_|(refine v_cd rfl (fun hb=>?_) (fun hb=>?_)<;>try(exfalso;omega))))
   refine a_st rfl rfl rfl rfl (up_t (up_t (up_h (u_val (y:=y.s_pair x.hdr.sub.toNat (p.s_key (x.hs.H.lead p.key))) (i:=x.hdr.hand.toNat) (k:=x.hdr.sub.toNat) (p:=p.s_key (x.hs.H.lead p.key)) (w:=x.hs.H.lead p.val) gy1 gp1)))) ?_
   repeat' (first
    |(refine k_L ?_;first|(refine k_ad ?_;refine g_ad rfl rfl ?_)|refine a_p rfl ?_|(refine k_l ?_;refine g_l rfl ?_)|(refine k_st ?_;refine g_st rfl rfl rfl rfl ?_))
    |refine a_n ?_
    |(refine k_V ?_;first|refine v_seq ?_|refine v_reg ?_|refine v_ret ?_)
    |refine s_r ?_
    |refine b_r ?_)
   refine fa_r (fun _ _=>rfl) (Pm.ent (fin ({x with xs:=(x.xs.set x.hdr.hand.toNat (y.s_pair x.hdr.sub.toNat (p.s_key (x.hs.H.lead p.key)))).set x.hdr.hand.toNat ((y.s_pair x.hdr.sub.toNat (p.s_key (x.hs.H.lead p.key))).s_pair x.hdr.sub.toNat ((p.s_key (x.hs.H.lead p.key)).s_val (x.hs.H.lead p.val))),sub:=x.sub+1}:HX))) ⟨_,rfl,?_⟩
   show({x.H with cells:=(((x.xs.set x.hdr.hand.toNat (y.s_pair x.hdr.sub.toNat (p.s_key (x.hs.H.lead p.key)))).set x.hdr.hand.toNat ((y.s_pair x.hdr.sub.toNat (p.s_key (x.hs.H.lead p.key))).s_pair x.hdr.sub.toNat ((p.s_key (x.hs.H.lead p.key)).s_val (x.hs.H.lead p.val))))).map (·.c),sub:=x.sub+1}:Heap)=_
   rw[List.set_set,List.map_set,hk',hs',show x.sub=s from hs]
   unfold CS.s_pair Pair.s_key Pair.s_val
   simp only[Int.toNat_natCast,List.set_set]
   rw[hk]
   rfl
  ·have gp:y.c.pairs[x.H.sub.toNat]?=none:=List.getElem?_eq_none (by omega)
   rw[gp]
   simp only
   repeat' (first
    |(refine k_L ?_;first|(refine k_ad ?_;refine g_ad rfl rfl ?_)|refine a_p rfl ?_|(refine k_l ?_;refine g_l rfl ?_)|(refine k_i ?_;refine g_i rfl rfl ?_)|(refine k_st ?_;refine g_st rfl rfl rfl rfl ?_))
    |refine a_n ?_
    |(refine k_V ?_;first|refine v_seq ?_|refine v_reg ?_|refine v_dreg ?_|refine v_bs ?_|refine v_skip ?_|(refine v_cd rfl (fun hb=>?_) (fun hb=>?_)<;>try(exfalso;omega)))
    |refine b_n ?_)
   refine fa_n (fun _ _=>rfl) (Pm.ent (fin ({x with hand:=x.hand+1,sub:=0}:HX))) ⟨_,rfl,?_⟩
   show({x.H with hand:=x.hand+1,sub:=0}:Heap)=_
   rw[show x.hand=k from hk]
theorem unit6_a{a:Nat}{x:HX}(h:Sound x.H)(hph:x.H.phase=6):FnA Tryd.prog 65 [ptr a] (hp a x) (fun v As=>∃z:HX,As=hp a z∧z.H=x.H.closeU):=by
 obtain⟨q1,q2,q3⟩:=sound_gray h
 have hl:=x.len
 have hnc:x.hdr.nc=x.xs.length:=rfl
 have hph':x.hdr.phase=6:=hph
 have hhd:x.hdr.hand=x.H.hand:=rfl
 have h0:=h.r1.hand
 have hrd:=h.r1.rounds
 have hrd':x.hdr.rounds=x.H.rounds:=rfl
 have hre:(x.enter 0).hdr.rounds=x.H.rounds:=rfl
 refine fnA_of (fun h=>fn65 (by simp) h) ?_
 refine v_kn (p:=x.xs.length≤x.cd.cap) (kn_t (kn_t (kn_h kc_cl))) (fun hcap=>?_)
 have hcap':x.hdr.cd.cap=x.cd.cap:=rfl
 unfold Heap.closeU
 by_cases hh:x.H.hand=0
 ·rw[if_pos hh]
  repeat' (first
   |(refine k_L ?_;first|(refine k_ad ?_;refine g_ad rfl rfl ?_)|refine a_p rfl ?_|(refine k_l ?_;refine g_l rfl ?_)|(refine k_st ?_;refine g_st rfl rfl rfl rfl ?_)|(refine g_c rfl (enter_a (x:=x)) (fun v As' hq=>?_);subst hq))
   |refine a_n ?_
   |(refine k_V ?_;first|refine v_seq ?_|refine v_reg ?_|refine v_bs ?_|refine v_ret ?_|(refine v_cd rfl (fun hb=>?_) (fun hb=>?_)<;>try(exfalso;omega)))
   |refine s_r ?_
   |refine b_r ?_)
  refine fa_r (fun _ _=>rfl) (Pm.ent (fin {x.enter 0 with rounds:=if 1000000000<x.rounds+1 then 1000000000 else x.rounds+1})) ⟨_,rfl,?_⟩
  show({(x.enter 0).H with rounds:=if 1000000000<x.rounds+1 then 1000000000 else x.rounds+1}:Heap)=_
  rw[enter_H]
  have:(if 1000000000<x.rounds+1 then 1000000000 else x.rounds+1)=if x.H.rounds<1000000000 then x.H.rounds+1 else x.H.rounds:=by
   rw[show x.rounds=x.H.rounds from rfl]
   by_cases c:x.H.rounds<1000000000
   ·rw[if_pos c,if_neg (by omega)]
   ·rw[if_neg c,if_pos (by omega)];omega
  rw[this]
 ·rw[if_neg hh]
  obtain⟨k,hk⟩:=Int.eq_ofNat_of_zero_le (show 0≤x.H.hand-1 by omega)
  have hk':x.hdr.hand-1=k:=hk
  obtain⟨y,gy,gc⟩:=HX.at (x:=x) (i:=k) (by omega)
  have gk:=HX.gc gy
  have gy':x.xs[(x.hdr.hand-1).toNat]?=some y:=by rw[hk'];exact gy
  have gz:(x.xs.set (x.hdr.hand-1).toNat CS.zero)[(x.hdr.hand-1).toNat]?=some CS.zero:=by
   rw[List.getElem?_set,if_pos rfl,if_pos (List.getElem?_eq_some_iff.1 gy').1]
  have hsh:(x.hdr.s_hand (x.hdr.hand-1)).hand=x.hdr.hand-1:=rfl
  have ghand:x.H.getC (x.H.hand-1)=y.c:=by rw[hk];exact gk
  have eA:y.c.state=2→x.H.closeA=(x.xs.set (x.hdr.hand-1).toNat CS.zero).map (·.c):=fun e=>by
   unfold Heap.closeA
   rw[ghand,if_pos e,List.map_set];rfl
  have eB:y.c.state≠2→x.H.closeA=x.H.cells:=fun e=>by
   unfold Heap.closeA
   rw[ghand,if_neg e]
  have sA:y.c.state=2→(getL x.H.closeA (x.H.hand-1)).state=0:=fun e=>by
   rw[eA e,List.map_set,getL_set (by rw[List.length_map];omega),if_pos (by rw[hhd])];rfl
  have sB:y.c.state≠2→(getL x.H.closeA (x.H.hand-1)).state=y.c.state:=fun e=>by
   rw[eB e,←getC_L,ghand]
  repeat' (first
   |(refine k_L ?_;first|(refine k_su ?_;refine g_su rfl rfl ?_)|refine a_p rfl ?_|(refine k_g ?_;first|refine a_gy rfl rfl ?_|refine a_gn rfl rfl ?_|(refine a_gd rfl (fun hb=>?_) (fun hb=>?_)<;>try(exfalso;omega)))|(refine k_l ?_;refine g_l rfl ?_)|(refine k_i ?_;refine g_i rfl rfl ?_)|(refine k_st ?_;refine g_st rfl rfl rfl rfl ?_)|(refine a_c0 CS.zero gy' rfl rfl rfl rfl rfl rfl rfl ?_)|(refine g_tk rfl rfl ?_))
   |refine a_n ?_
   |(refine k_V ?_;first|refine v_seq ?_|refine v_reg ?_|refine v_dreg ?_|refine v_bs ?_|refine v_skip ?_|refine v_ct rfl ?_|refine v_cf rfl ?_|(refine v_cd rfl (fun hb=>?_) (fun hb=>?_)<;>try(exfalso;omega)))
   |refine b_n ?_)
  ·have hs2:y.c.state=2:=by assumption
   have hn:x.H.hand=x.H.cells.length:=by omega
   rw[if_pos ⟨hn,sA hs2⟩,eA hs2]
   refine fa_n (As':=hp a ({x with hand:=x.hand-1,xs:=(x.xs.set (x.hdr.hand-1).toNat CS.zero).take ((x.hdr.nc:Int)-1).toNat}:HX)) (fun _ _=>rfl) ?_ ⟨_,rfl,?_⟩
   ·refine(cl_take (k:=((x.hdr.nc:Int)-1).toNat) (by rw[List.length_set];omega)).trans ?_
    exact Pm.ent (fin _ (h2:=by rw[List.length_take,List.length_set];show((x.hdr.nc:Int)-1).toNat=_;omega))
   ·show({x.H with hand:=x.hand-1,cells:=(((x.xs.set (x.hdr.hand-1).toNat CS.zero).take ((x.hdr.nc:Int)-1).toNat).map (·.c))}:Heap)=_
    rw[List.map_take,show((x.hdr.nc:Int)-1).toNat=(x.H.hand-1).toNat by omega]
    rfl
  ·have hs2:y.c.state=2:=by assumption
   rw[if_neg (fun h=>by have:=h.1;omega),eA hs2]
   exact fa_n (fun _ _=>rfl) (Pm.ent (fin {x with hand:=x.hand-1,xs:=x.xs.set (x.hdr.hand-1).toNat CS.zero})) ⟨_,rfl,rfl⟩
  ·have hs2:y.c.state≠2:=by assumption
   have hs0:y.c.state=0:=by assumption
   have hn:x.H.hand=x.H.cells.length:=by omega
   rw[if_pos ⟨hn,by rw[sB hs2];exact hs0⟩,eB hs2]
   refine fa_n (As':=hp a ({x with hand:=x.hand-1,xs:=x.xs.take ((x.hdr.nc:Int)-1).toNat}:HX)) (fun _ _=>rfl) ?_ ⟨_,rfl,?_⟩
   ·refine Ent.trans (Pm.ent (As1:=[clA x.cd x.xs,hdA a ((x.hdr.s_hand (x.hdr.hand-1)).s_cd x.cd ((x.hdr.nc:Int)-1).toNat),slA 3 wv x.rd x.regs,slA 1 iv x.gd x.gray]) pmt) ?_
    refine(cl_take (k:=((x.hdr.nc:Int)-1).toNat) (by omega)).trans ?_
    exact Pm.ent (fin _ (h2:=by rw[List.length_take];show((x.hdr.nc:Int)-1).toNat=_;omega))
   ·show({x.H with hand:=x.hand-1,cells:=((x.xs.take ((x.hdr.nc:Int)-1).toNat).map (·.c))}:Heap)=_
    rw[List.map_take,show((x.hdr.nc:Int)-1).toNat=(x.H.hand-1).toNat by omega]
    rfl
  ·have hs2:y.c.state≠2:=by assumption
   have hs0:¬y.c.state=0:=by assumption
   rw[if_neg (fun h=>hs0 (by have:=h.2;rw[sB hs2]at this;exact this)),eB hs2]
   exact fa_n (fun _ _=>rfl) (Pm.ent (fin {x with hand:=x.hand-1})) ⟨_,rfl,rfl⟩
  ·have hs2:y.c.state≠2:=by assumption
   rw[if_neg (fun h=>by have:=h.1;omega),eB hs2]
   exact fa_n (fun _ _=>rfl) (Pm.ent (fin {x with hand:=x.hand-1})) ⟨_,rfl,rfl⟩
theorem unit_a{a:Nat}{x:HX}(h:Sound x.H)(hph:x.H.phase≠0):FnA Tryd.prog 65 [ptr a] (hp a x) (fun v As=>∃z:HX,As=hp a z∧z.H=x.H.unitH):=by
 have h5:=h.r1.phase
 unfold Heap.unitH
 rcases(by omega:x.H.phase=1∨x.H.phase=2∨x.H.phase=3∨x.H.phase=4∨x.H.phase=5∨x.H.phase=6)with e|e|e|e|e|e
 ·rw[if_pos e];exact unit1_a h e
 ·rw[if_neg (by omega),if_pos e];exact unit2_a h e
 ·rw[if_neg (by omega),if_neg (by omega),if_pos e];exact unit3_a h e
 ·rw[if_neg (by omega),if_neg (by omega),if_neg (by omega),if_pos e];exact unit4_a h e
 ·rw[if_neg (by omega),if_neg (by omega),if_neg (by omega),if_neg (by omega),if_pos e];exact unit5_a h e
 ·rw[if_neg (by omega),if_neg (by omega),if_neg (by omega),if_neg (by omega),if_neg (by omega),if_pos e];exact unit6_a h e
def HX.ph(x:HX)(p hd:Int):HX:={x with phase:=p,hand:=hd,sub:=0}
theorem finish_a{a:Nat}{x:HX}(h:Sound x.H):FnA Tryd.prog 66 [ptr a] (hp a x) (fun v As=>∃z:HX,v=.int .i64 (outN x.H)∧As=hp a z∧z.H=x.H.outH):=by
 obtain⟨ho,hN⟩:=outN_ok h
 refine fnA_of (fun h=>fn66 (by simp) h) ?_
 repeat' (first
  |(refine k_L ?_;refine a_p rfl ?_)
  |refine a_n ?_
  |(refine k_V ?_;first|refine v_seq ?_|refine v_reg ?_))
 refine v_blk ?_
 refine v_loop (fun q:Nat×HX=>[(0,.v (ptr a)),(3,.v (.int .i64 q.1))]) (fun q=>hp a q.2) (fun k q=>k=outN x.H-q.1∧q.1≤outN x.H∧q.2.H=iterU q.1 x.H) ⟨_,(0,x),⟨rfl,rfl,trivial⟩,Ent.refl _,rfl,Nat.zero_le _,rfl⟩ ?_
 rintro k ⟨j,z⟩ ⟨rfl,hj,hz⟩
 simp only at hj hz
 dsimp only
 have hs:Sound z.H:=by rw[hz];exact iterU_sound j h
 have hp:=out_phase h hj
 rw[←hz]at hp
 have hph:z.hdr.phase=z.H.phase:=rfl
 by_cases e:j=outN x.H
 ·have e0:=hp.2 e
  repeat' (first
   |(refine k_L ?_;first|refine a_p rfl ?_|(refine k_l ?_;refine g_l rfl ?_))
   |refine a_n ?_
   |(refine k_V ?_;first|refine v_seq ?_|refine v_reg ?_|refine v_ret ?_|refine v_exit ?_|(refine v_cn rfl (fun hb=>?_) (fun hb=>?_)<;>try(exfalso;omega))))
  refine fa_r (fun _ _=>rfl) (Pm.ent (fin z)) ⟨z,?_,rfl,?_⟩
  ·rw[e]
  ·rw[hz,e];rfl
 ·have e0:z.H.phase≠0:=fun h'=>e (hp.1 h')
  repeat' (first
   |(refine k_L ?_;first|(refine k_ad ?_;refine g_ad rfl rfl ?_)|refine a_p rfl ?_|(refine k_l ?_;refine g_l rfl ?_)|(refine g_c rfl (unit_a hs e0) (fun v As' hq=>?_);obtain⟨u,rfl,hu⟩:=hq))
   |refine a_n ?_
   |(refine k_V ?_;first|refine v_seq ?_|refine v_reg ?_|refine v_bs ?_|refine v_skip ?_|(refine v_cn rfl (fun hb=>?_) (fun hb=>?_)<;>try(exfalso;omega)))
   |refine s_n ?_
   |refine b_n ?_)
  refine⟨outN x.H-(j+1),(j+1,u),by omega,⟨rfl,rfl,trivial⟩,Pm.ent pmt,rfl,by show j+1≤outN x.H;omega,?_⟩
  show u.H=iterU (j+1) x.H
  rw[iterU_succ,←hz];exact hu
theorem begin_H{x:HX}:x.begin.H=x.H.beginH:=by
 unfold HX.begin Heap.beginH
 by_cases e:x.phase=0
 ·rw[if_pos e,if_pos (show x.H.phase=0 from e)];exact enter_H
 ·rw[if_neg e,if_neg (show ¬x.H.phase=0 from e)]
theorem round_a{a:Nat}{x:HX}(h:Sound x.H):FnA Tryd.prog 56 [ptr a] (hp a x) (fun v As=>∃z:HX,As=hp a z∧z.H=x.H.roundH):=by
 obtain⟨o1,o2⟩:=outH_ok h
 refine fnA_of (fun h=>fn56 (by simp) h) ?_
 repeat' (first
  |(refine k_L ?_;refine a_p rfl ?_)
  |refine a_n ?_
  |(refine k_V ?_;first|refine v_seq ?_|refine v_reg ?_))
 refine g_c rfl (finish_a h) (fun v As' hq=>?_)
 obtain⟨z,rfl,rfl,hz⟩:=hq
 have zb:z.begin.H=x.H.outH.enterH 1:=by rw[begin_H,hz];unfold Heap.beginH;rw[if_pos o2]
 repeat' (first
  |(refine k_L ?_;first|refine a_p rfl ?_|(refine g_c rfl (begin_a (x:=z)) (fun v As' hq=>?_);subst hq))
  |refine a_n ?_
  |(refine k_V ?_;first|refine v_seq ?_|refine v_reg ?_))
 refine g_c rfl (finish_a (x:=z.begin) (by rw[zb];exact begin_sound o1 o2)) (fun v As' hq=>?_)
 obtain⟨u,rfl,rfl,hu⟩:=hq
 repeat' (first
  |(refine k_L ?_;first|(refine k_ad ?_;refine g_ad rfl rfl ?_)|(refine k_su ?_;refine g_su rfl rfl ?_)|(refine k_ml ?_;refine g_ml rfl rfl ?_)|refine a_p rfl ?_|(refine k_g ?_;first|refine a_gy rfl rfl ?_|refine a_gn rfl rfl ?_|refine a_gu rfl ?_|(refine a_gd rfl (fun hb=>?_) (fun hb=>?_)<;>try(exfalso;omega))|(refine a_ge rfl (fun hb=>?_) (fun hb=>?_)<;>try(exfalso;omega))|(refine a_gne rfl (fun hb=>?_) (fun hb=>?_)<;>try(exfalso;omega))|(refine a_gnd rfl (fun hb=>?_) (fun hb=>?_)<;>try(exfalso;omega)))|(refine k_l ?_;refine g_l rfl ?_)|(refine k_i ?_;refine g_i rfl rfl ?_)|(refine k_ls ?_;refine g_ls rfl ?_)|(refine k_st ?_;first|refine g_st rfl rfl rfl rfl ?_|refine g_sw rfl rfl rfl rfl (Nat.le_of_ble_eq_true rfl) ?_)|(refine k_al ?_;refine a_al ?_)|(refine k_bx ?_;refine a_bx rfl rfl ?_)|(refine k_bl ?_;refine a_bl rfl ?_)|(refine k_p ?_;first|(refine a_pd rfl (fun hb=>?_) (fun hb=>?_)<;>try(exfalso;omega))|(refine a_pe rfl (fun hb=>?_) (fun hb=>?_)<;>try(exfalso;omega))|(refine a_pne rfl (fun hb=>?_) (fun hb=>?_)<;>try(exfalso;omega))|(refine a_pnd rfl (fun hb=>?_) (fun hb=>?_)<;>try(exfalso;omega))))
  |refine a_n ?_
  |(refine k_V ?_;first|refine v_rv ?_|refine v_seq ?_|refine v_reg ?_|refine v_dreg ?_|refine v_zreg ?_|refine v_bs ?_|refine v_br ?_|refine v_bd ?_|refine v_bc ?_|refine v_bk ?_|refine v_bb ?_|refine v_ret ?_|refine v_exit ?_|refine v_skip ?_|refine v_ct rfl ?_|refine v_cf rfl ?_|(refine v_cd rfl (fun hb=>?_) (fun hb=>?_)<;>try(exfalso;omega))|(refine v_ce rfl (fun hb=>?_) (fun hb=>?_)<;>try(exfalso;omega))|(refine v_cn rfl (fun hb=>?_) (fun hb=>?_)<;>try(exfalso;omega))|(refine v_cnd rfl (fun hb=>?_) (fun hb=>?_)<;>try(exfalso;omega)))
  |refine s_n ?_
  |refine s_r ?_
  |refine s_e ?_
  |refine b_n ?_
  |refine b_r ?_
  |refine b_e ?_
  |refine b_o rfl ?_
  |refine r_rt ?_
  |refine r_bk rfl ?_
  |refine r_ex rfl rfl ?_
  |refine sk_zero ?_
  |refine sk_succ ?_
  |refine wk_nil ?_
  |refine wk_cons ?_)
 exact fa_n (fun _ _=>rfl) (Pm.ent (fin u)) ⟨_,rfl,by rw[hu,zb];rfl⟩
theorem step_a{a:Nat}{x:HX}{n:Int}(h:Sound x.H)(hn:0≤n∧n≤1000000000000):FnA Tryd.prog 55 [ptr a,.int .i64 n] (hp a x) (fun v As=>∃z:HX,v=.int .i64 (min n.toNat (outN x.H):Nat)∧As=hp a z∧z.H=iterU (min n.toNat (outN x.H)) x.H):=by
 obtain⟨ho,hN⟩:=outN_ok h
 refine fnA_of (fun h=>fn55 (by simp) h) ?_
 repeat' (first
  |(refine k_L ?_;refine a_p rfl ?_)
  |refine a_n ?_
  |(refine k_V ?_;first|refine v_seq ?_|refine v_reg ?_))
 generalize hm:min n.toNat (outN x.H)=mx
 have hm1:mx≤outN x.H:=by omega
 have hm2:(mx:Int)≤n:=by omega
 refine v_mono (Q:=seqA (Jx (fun z:HX=>[(0,.v (ptr a)),(5,.v (.int .i64 mx))]) (fun z=>hp a z) (fun z=>z.H=iterU mx x.H)) (fun _ _ _=>False)) ?_ ?_
 ·refine v_blk ?_
  refine v_loop (fun q:Nat×HX=>[(0,.v (ptr a)),(1,.v (.int .i64 n)),(5,.v (.int .i64 q.1))]) (fun q=>hp a q.2) (fun k q=>k=mx-q.1∧q.1≤mx∧q.2.H=iterU q.1 x.H) ⟨_,(0,x),⟨rfl,rfl,rfl,trivial⟩,Ent.refl _,rfl,Nat.zero_le _,rfl⟩ ?_
  rintro k ⟨j,z⟩ ⟨rfl,hj,hz⟩
  simp only at hj hz
  dsimp only
  have hs:Sound z.H:=by rw[hz];exact iterU_sound j h
  have hp:=out_phase h (j:=j) (by omega)
  rw[←hz]at hp
  have hph:z.hdr.phase=z.H.phase:=rfl
  by_cases e:j=mx
  ·subst e
   by_cases e1:(j:Int)<n
   ·have e0:z.H.phase=0:=hp.2 (by omega)
    repeat' (first
     |(refine k_L ?_;first|refine a_p rfl ?_|(refine k_g ?_;first|refine a_gy rfl rfl ?_|(refine a_gd rfl (fun hb=>?_) (fun hb=>?_)<;>try(exfalso;omega)))|(refine k_l ?_;refine g_l rfl ?_))
     |refine a_n ?_
     |(refine k_V ?_;first|refine v_seq ?_|refine v_reg ?_|refine v_exit ?_|(refine v_cn rfl (fun hb=>?_) (fun hb=>?_)<;>try(exfalso;omega)))
     |refine s_n ?_
     |refine s_e ?_
     |refine b_e ?_)
    exact j_i z hz
   ·repeat' (first
     |(refine k_L ?_;first|refine a_p rfl ?_|(refine k_g ?_;first|refine a_gn rfl rfl ?_|(refine a_gd rfl (fun hb=>?_) (fun hb=>?_)<;>try(exfalso;omega))))
     |refine a_n ?_
     |(refine k_V ?_;first|refine v_seq ?_|refine v_reg ?_|refine v_exit ?_|refine v_cf rfl ?_)
     |refine s_n ?_
     |refine s_e ?_
     |refine b_e ?_)
    exact j_i z hz
  ·have e0:z.H.phase≠0:=fun h'=>by have:=hp.1 h';omega
   repeat' (first
    |(refine k_L ?_;first|(refine k_ad ?_;refine g_ad rfl rfl ?_)|refine a_p rfl ?_|(refine k_g ?_;first|refine a_gy rfl rfl ?_|(refine a_gd rfl (fun hb=>?_) (fun hb=>?_)<;>try(exfalso;omega)))|(refine k_l ?_;refine g_l rfl ?_)|(refine g_c rfl (unit_a hs e0) (fun v As' hq=>?_);obtain⟨u,rfl,hu⟩:=hq))
    |refine a_n ?_
    |(refine k_V ?_;first|refine v_seq ?_|refine v_reg ?_|refine v_bs ?_|refine v_skip ?_|(refine v_cn rfl (fun hb=>?_) (fun hb=>?_)<;>try(exfalso;omega)))
    |refine s_n ?_
    |refine b_n ?_)
   refine⟨mx-(j+1),(j+1,u),by omega,⟨rfl,rfl,rfl,trivial⟩,Pm.ent pmt,rfl,by show j+1≤mx;omega,?_⟩
   show u.H=iterU (j+1) x.H
   rw[iterU_succ,←hz];exact hu
 rintro y S' As' hq
 cases y with
 |ret=>exact hq.elim
 |ext i=>exact hq.elim
 |nrm=>
 obtain⟨z,hl',he',hz⟩:=hq
 refine v_weak _ hl' (VA.ent he' ?_)
 repeat' (first
  |(refine k_L ?_;refine a_p rfl ?_)
  |refine a_n ?_
  |(refine k_V ?_;first|refine v_seq ?_|refine v_reg ?_|refine v_ret ?_))
 exact fa_r (fun _ _=>rfl) (Pm.ent (fin z)) ⟨z,rfl,rfl,hz⟩
theorem used_b{z:HX}(h:Sound z.H):0≤z.hdr.used∧z.hdr.used≤4000:=by
 have h1:=h.r1.room
 have h2:=h.r3
 have h3:=unitsN_nn z.H.cells
 have e1:z.hdr.used=z.H.used:=rfl
 unfold R3 at h2
 omega
def HX.frc(x:HX)(n:Int):HX:={x with forced:=n}
theorem step_begun{H:Heap}(hp:H.phase=0){n:Int}(hn:n≠0):(H.enterH 1).stepH n=H.stepH n:=by
 have e1:(H.enterH 1).beginH=H.enterH 1:=by unfold Heap.beginH;rw[if_neg (by show ¬(1:Int)=0;omega)]
 have e2:H.beginH=H.enterH 1:=by unfold Heap.beginH;rw[if_pos hp]
 unfold Heap.stepH stepN
 simp only[if_neg hn,e1,e2]
theorem b_p{P:Program}{r:List I}{d:Option Nat}{post:St→List Asr→Prop}{S:St}{As:List Asr}{k:K}{sv:SV}(h:pe S k=some sv)(hp:LA P r post (put S d sv) As):LA P (⟨d,none,k⟩::r) post S As:=a_p h hp
theorem b_w{P:Program}{r:List I}{d:Option Nat}{post:St→List Asr→Prop}{S:St}{As:List Asr}{k:K}(w:Word)(h:pe S k=some (.v (wa w)))(hp:LA P r post (put S d (.v (wa w))) As):LA P (⟨d,none,k⟩::r) post S As:=a_p h hp
noncomputable def keyS(H:Heap)(c:Cell)(p:Pair)(q:List Bool×List Int):List Bool×List Int:=if KeyW c then mkW H q p.key else q
abbrev WE:=D×List Word
def wv0:WE:=(⟨none,0⟩,[])
def WE.sl(e:WE):Value:=.slice e.1.a e.2.length e.1.cap
def wtA(W:List WE):Asr:=star (W.map fun e=>slA 3 wv e.1 e.2)
def wmA(b:Nat)(W:List WE):Asr:=fun m=>∃g,mpA b g m∧∀(j:Nat) e,W[j]?=some e→(g j).getD (.slice none 0 0)=e.sl
theorem wt_out{W:List WE}{i:Nat}{e:WE}(hi:W[i]?=some e){m:Mem}(h:wtA W m):star [slA 3 wv e.1 e.2,wtA (W.eraseIdx i)] m:=by
 obtain⟨hlt,he⟩:=List.getElem?_eq_some_iff.1 hi
 have hp:=(erase_perm hlt).symm.map (fun e:WE=>slA 3 wv e.1 e.2)
 have:=star_perm hp h
 rw[he]at this
 obtain⟨a,b,d,e1,h1,h2⟩:=this
 exact star2.2 ⟨a,b,d,e1,h1,h2⟩
theorem wt_in{W:List WE}{i:Nat}{e':WE}(hi:i<W.length){m:Mem}(h:star [slA 3 wv e'.1 e'.2,wtA (W.eraseIdx i)] m):wtA (W.set i e') m:=by
 have hlt:i<(W.set i e').length:=by simpa using hi
 have hp:=(erase_perm hlt).map (fun e:WE=>slA 3 wv e.1 e.2)
 rw[List.getElem_set_self,List.eraseIdx_set_eq]at hp
 refine star_perm hp ?_
 obtain⟨a,b,d,e1,h1,h2⟩:=star2.1 h
 exact⟨a,b,d,e1,h1,h2⟩
theorem ent_wout{W:List WE}{i:Nat}{e:WE}{R:List Asr}(hi:W[i]?=some e):Ent (wtA W::R) (slA 3 wv e.1 e.2::wtA (W.eraseIdx i)::R):=ent_of fun m h=>by
 have:=star_cons_mono h (fun _ h=>wt_out hi h) (fun _ h=>h)
 exact star_in.1 this
theorem ent_win{W:List WE}{i:Nat}{e':WE}{R:List Asr}(hi:i<W.length):Ent (slA 3 wv e'.1 e'.2::wtA (W.eraseIdx i)::R) (wtA (W.set i e')::R):=ent_of fun m h=>by
 have:star (star [slA 3 wv e'.1 e'.2,wtA (W.eraseIdx i)]::R) m:=star_in.2 h
 exact star_cons_mono this (fun _ h=>wt_in hi h) (fun _ h=>h)
theorem sl_nil{α:Type}{f:α→List Value}{size:Nat}:slA size f ⟨none,0⟩ [] emp:=⟨.inl ⟨0,rfl,rfl,rfl⟩,fun _ _=>rfl⟩
theorem ent_wclr{W:List WE}{i:Nat}{R:List Asr}(hi:i<W.length):Ent (wtA (W.eraseIdx i)::R) (wtA (W.set i wv0)::R):=ent_h fun m h=>wt_in hi (star2.2 ⟨emp,m,fun _=>.inl rfl,rfl,sl_nil,h⟩)
theorem wt_nil:∀n:Nat,wtA (List.replicate n wv0) emp
 |0=>rfl
 |n+1=>⟨emp,emp,fun _=>.inl rfl,rfl,sl_nil,wt_nil n⟩
theorem ent_wnil{n:Nat}{R:List Asr}:Ent R (wtA (List.replicate n wv0)::R):=ent_of fun m h=>⟨emp,m,fun _=>.inl rfl,rfl,wt_nil n,h⟩
theorem ent_wm0{b n:Nat}{R:List Asr}:Ent (mpA b (fun _=>none)::R) (wmA b (List.replicate n wv0)::R):=ent_h fun m h=>⟨_,h,fun j e he=>by
 rw[List.getElem?_replicate]at he
 split at he
 ·cases he;rfl
 ·cases he⟩
theorem ent_wm{b:Nat}{g:Int→Option Value}{W:List WE}{R:List Asr}(hW:∀(j:Nat) e,W[j]?=some e→(g j).getD (.slice none 0 0)=WE.sl e):Ent (mpA b g::R) (wmA b W::R):=ent_h fun m h=>⟨g,h,hW⟩
theorem v_wm{E:Env}{c:C}{Q:X→St→List Asr→Prop}{S:St}{b:Nat}{W:List WE}{R:List Asr}(h:∀g:Int→Option Value,(∀(j:Nat) e,W[j]?=some e→(g j).getD (.slice none 0 0)=WE.sl e)→VA E c Q S (mpA b g::R)):VA E c Q S (wmA b W::R):=
 ⟨fun m hm=>by
   obtain⟨a,c,dj,e1,⟨g,hg,hW⟩,hR⟩:=hm
   exact(h g hW).out m ⟨a,c,dj,e1,hg,hR⟩⟩
theorem wm_clr{g:Int→Option Value}{W:List WE}{j:Nat}(hW:∀(j:Nat) e,W[j]?=some e→(g j).getD (.slice none 0 0)=WE.sl e):
 ∀(i:Nat) e,(W.set j wv0)[i]?=some e→((fun i:Int=>if i=(j:Int)then none else g i) i).getD (.slice none 0 0)=WE.sl e:=by
 intro i e he
 rw[List.getElem?_set]at he
 by_cases h:j=i
 ·subst h
  rw[if_pos rfl]at he
  split at he
  ·cases he;simp;rfl
  ·cases he
 ·rw[if_neg h]at he
  have:¬((i:Int)=(j:Int)):=by omega
  simp only[this,if_false]
  exact hW i e he
theorem wm_put{g:Int→Option Value}{W:List WE}{j:Nat}{e':WE}(hW:∀(j:Nat) e,W[j]?=some e→(g j).getD (.slice none 0 0)=WE.sl e):
 ∀(i:Nat) e,(W.set j e')[i]?=some e→((fun i:Int=>if i=(j:Int)then some (WE.sl e')else g i) i).getD (.slice none 0 0)=WE.sl e:=by
 intro i e he
 rw[List.getElem?_set]at he
 by_cases h:j=i
 ·subst h
  rw[if_pos rfl]at he
  split at he
  ·cases he;simp
  ·cases he
 ·rw[if_neg h]at he
  have:¬((i:Int)=(j:Int)):=by omega
  simp only[this,if_false]
  exact hW i e he
def PairOk(H:Heap)(seen:List Bool)(W:List WE)(c:Cell)(p:Pair):Prop:=
 (KeyW c→Hit H seen p.key)∧(ValW c→Hit H seen p.val∨∃k e,H.tgt p.key=some k∧W[k]?=some e∧p.val∈e.2)
structure HI (H:Heap) (s:List Bool×List Int) (W:List WE) (B:Nat) (pc:Nat) (ex ew:Nat→Prop):Prop where
 mk':Mk H (Held H) s
 pc:pc+s.2.length+s.1.count false≤H.cells.length
 wl:W.length=H.cells.length
 wlen:∀e,e∈W→e.2.length≤B
 wok:∀(k:Nat) e,W[k]?=some e→∀w,w∈e.2→Formed H w∧(Held H k→∀j,H.tgt w=some j→j<H.cells.length∧Held H j)
 rule:∀(i:Nat) c,s.1[i]?=some true→(i:Int)∉s.2→¬ex i→H.cells[i]?=some c→∀p,p∈c.pairs→PairOk H s.1 W c p
 empt:∀(k:Nat) e,W[k]?=some e→s.1[k]?=some true→(k:Int)∉s.2→¬ew k→e.2=[]
theorem PairOk.grow{H:Heap}{s t:List Bool×List Int}{W:List WE}{c:Cell}{p:Pair}(h:PairOk H s.1 W c p)(g:Grow s t):PairOk H t.1 W c p:=
 ⟨fun k=>(h.1 k).grow g,fun v=>(h.2 v).imp (fun h=>h.grow g) id⟩
theorem HI.mark{H:Heap}{s:List Bool×List Int}{W:List WE}{B pc:Nat}{ex ew:Nat→Prop}{w:Word}(h:HI H s W B pc ex ew)(hw:∀j,H.tgt w=some j→j<H.cells.length∧Held H j):HI H (mkW H s w) W B pc ex ew∧Grow s (mkW H s w)∧Hit H (mkW H s w).1 w:=by
 obtain⟨a,g,d⟩:=mkW_ok h.mk' hw
 have hn:∀i:Nat,(mkW H s w).1[i]?=some true→(i:Int)∉(mkW H s w).2→s.1[i]?=some true∧(i:Int)∉s.2:=fun i h1 h2=>⟨(g.new i h1).elim id fun h'=>absurd h' h2,fun h'=>h2 (g.old _ h')⟩
 refine⟨⟨a,?_,h.wl,h.wlen,h.wok,fun i c h1 h2 h3 h4 p hp=>(h.rule i c (hn i h1 h2).1 (hn i h1 h2).2 h3 h4 p hp).grow g,fun k e h1 h2 h3 h4=>h.empt k e h1 (hn k h2 h3).1 (hn k h2 h3).2 h4⟩,g,d⟩
 have:=h.pc
 unfold mkW
 split
 ·split
  ·rename_i j _ hs
   have:=count_set hs
   simp only[List.length_append,List.length_singleton]
   omega
  ·exact this
 ·exact this
theorem HI.weak{H:Heap}{s:List Bool×List Int}{W:List WE}{B B' pc:Nat}{ex ew:Nat→Prop}(h:HI H s W B pc ex ew)(hB:B≤B'):HI H s W B' pc ex ew:=⟨h.mk',h.pc,h.wl,fun e he=>Nat.le_trans (h.wlen e he) hB,h.wok,h.rule,h.empt⟩
theorem HI.pop{H:Heap}{seen:List Bool}{init:List Int}{j:Nat}{W:List WE}{B pc:Nat}(h:HI H (seen,init++[(j:Int)]) W B pc (fun _=>False) (fun _=>False)):HI H (seen,init) W B (pc+1) (fun i=>i=j) (fun i=>i=j):=by
 have hp:=h.pc
 simp only[List.length_append,List.length_singleton]at hp
 have hn:∀i:Nat,(i:Int)∉init→¬i=j→(i:Int)∉init++[(j:Int)]:=fun i h1 h2 h3=>by
  rcases List.mem_append.1 h3 with h3|h3
  ·exact h1 h3
  ·simp only[List.mem_singleton]at h3;omega
 refine⟨⟨h.mk'.len,h.mk'.snd,fun g hg=>h.mk'.stk g (by simp[hg]),?_⟩,?_,h.wl,h.wlen,h.wok,fun i c h1 h2 h3 h4 p hp'=>h.rule i c h1 (hn i h2 h3) (fun h=>h) h4 p hp',fun k e h1 h2 h3 h4=>h.empt k e h1 h2 (hn k h3 h4) (fun h=>h)⟩
 ·dsimp only;omega
 ·dsimp only;omega
theorem HI.clr{H:Heap}{s:List Bool×List Int}{W:List WE}{B pc j:Nat}{e:WE}(h:HI H s W B pc (fun i=>i=j) (fun i=>i=j))(he:W[j]?=some e)(hh:∀w,w∈e.2→Hit H s.1 w):HI H s (W.set j wv0) B pc (fun i=>i=j) (fun _=>False):=by
 have hjl:=(List.getElem?_eq_some_iff.1 he).1
 have hg:∀(k:Nat) e',(W.set j wv0)[k]?=some e'→(k=j∧e'=wv0)∨(k≠j∧W[k]?=some e'):=fun k e' h=>by
  rw[List.getElem?_set]at h
  by_cases hk:j=k
  ·subst hk
   rw[if_pos rfl,if_pos hjl]at h
   exact .inl ⟨rfl,(Option.some.inj h).symm⟩
  ·rw[if_neg hk]at h
   exact .inr ⟨fun e=>hk e.symm,h⟩
 refine⟨h.mk',h.pc,by simpa using h.wl,fun e' he'=>?_,fun k e' hk w hw=>?_,fun i c h1 h2 h3 h4 p hp=>?_,fun k e' hk h2 h3 _=>?_⟩
 ·obtain⟨k,hk⟩:=List.getElem?_of_mem he'
  rcases hg k e' hk with⟨_,rfl⟩|⟨_,h'⟩
  ·simp[wv0]
  ·exact h.wlen e' (List.mem_of_getElem? h')
 ·rcases hg k e' hk with⟨_,rfl⟩|⟨_,h'⟩
  ·simp[wv0]at hw
  ·exact h.wok k e' h' w hw
 ·obtain⟨r1,r2⟩:=h.rule i c h1 h2 h3 h4 p hp
  refine⟨r1,fun hv=>?_⟩
  rcases r2 hv with r|⟨k,e',ht,hk,hm⟩
  ·exact .inl r
  ·by_cases hkj:k=j
   ·subst hkj
    rw[he]at hk;cases hk
    exact .inl (hh _ hm)
   ·exact .inr ⟨k,e',ht,by rw[List.getElem?_set_ne (fun e=>hkj e.symm)];exact hk,hm⟩
 ·rcases hg k e' hk with⟨_,rfl⟩|⟨hne,h'⟩
  ·rfl
  ·exact h.empt k e' h' h2 h3 hne
theorem HI.wait{H:Heap}{s:List Bool×List Int}{W:List WE}{B pc k:Nat}{ex:Nat→Prop}{e:WE}{d:D}{w:Word}(h:HI H s W B pc ex (fun _=>False))(he:W[k]?=some e)(hs:s.1[k]?=some false)(hw:Formed H w∧(Held H k→∀j,H.tgt w=some j→j<H.cells.length∧Held H j)):
 HI H s (W.set k (d,e.2++[w])) (B+1) pc ex (fun _=>False)∧∀c p,PairOk H s.1 W c p→PairOk H s.1 (W.set k (d,e.2++[w])) c p:=by
 have hkl:=(List.getElem?_eq_some_iff.1 he).1
 have hg:∀(i:Nat) e',(W.set k (d,e.2++[w]))[i]?=some e'→(i=k∧e'=(d,e.2++[w]))∨(i≠k∧W[i]?=some e'):=fun i e' h=>by
  rw[List.getElem?_set]at h
  by_cases hk:k=i
  ·subst hk
   rw[if_pos rfl,if_pos hkl]at h
   exact .inl ⟨rfl,(Option.some.inj h).symm⟩
  ·rw[if_neg hk]at h
   exact .inr ⟨fun e=>hk e.symm,h⟩
 have hpo:∀c p,PairOk H s.1 W c p→PairOk H s.1 (W.set k (d,e.2++[w])) c p:=fun c p ⟨r1,r2⟩=>⟨r1,fun hv=>by
  rcases r2 hv with r|⟨i,e',ht,hi,hm⟩
  ·exact .inl r
  ·by_cases hik:i=k
   ·subst hik
    rw[he]at hi;cases hi
    exact .inr ⟨i,(d,e.2++[w]),ht,by rw[List.getElem?_set,if_pos rfl,if_pos hkl],List.mem_append_left _ hm⟩
   ·exact .inr ⟨i,e',ht,by rw[List.getElem?_set_ne (fun e=>hik e.symm)];exact hi,hm⟩⟩
 refine⟨⟨h.mk',h.pc,by simpa using h.wl,fun e' he'=>?_,fun i e' hi w' hw'=>?_,fun i c h1 h2 h3 h4 p hp=>hpo c p (h.rule i c h1 h2 h3 h4 p hp),fun i e' hi h2 h3 _=>?_⟩,hpo⟩
 ·obtain⟨i,hi⟩:=List.getElem?_of_mem he'
  rcases hg i e' hi with⟨_,rfl⟩|⟨_,h'⟩
  ·have:=h.wlen e (List.mem_of_getElem? he)
   simp;omega
  ·have:=h.wlen e' (List.mem_of_getElem? h');omega
 ·rcases hg i e' hi with⟨rfl,rfl⟩|⟨_,h'⟩
  ·rcases List.mem_append.1 hw' with hw'|hw'
   ·exact h.wok i e he w' hw'
   ·simp only[List.mem_singleton]at hw';subst hw';exact hw
  ·exact h.wok i e' h' w' hw'
 ·rcases hg i e' hi with⟨rfl,rfl⟩|⟨hne,h'⟩
  ·rw[hs]at h2;cases h2
  ·exact h.empt i e' h' h2 h3 (fun h=>h)
theorem HI.done{H:Heap}{s:List Bool×List Int}{W:List WE}{B pc j:Nat}{c:Cell}(h:HI H s W B pc (fun i=>i=j) (fun _=>False))(hc:H.cells[j]?=some c)(hp:∀p,p∈c.pairs→PairOk H s.1 W c p):HI H s W B pc (fun _=>False) (fun _=>False):=
 ⟨h.mk',h.pc,h.wl,h.wlen,h.wok,fun i c' h1 h2 _ h4 p hp'=>by
   by_cases e:i=j
   ·subst e;rw[hc]at h4;cases h4;exact hp p hp'
   ·exact h.rule i c' h1 h2 e h4 p hp',h.empt⟩
theorem HI.fin{H:Heap}{seen:List Bool}{W:List WE}{B pc:Nat}(h:HI H (seen,[]) W B pc (fun _=>False) (fun _=>False))(hf:HFull H seen):seen=heldL H:=
 held_end h.mk' hf fun i c hi hc p hp=>by
  obtain⟨r1,r2⟩:=h.rule i c hi (by simp) (fun h=>h) hc p hp
  refine⟨r1,fun hv hk=>?_⟩
  rcases r2 hv with r|⟨k,e,ht,he,hm⟩
  ·exact r
  ·have:=h.empt k e he (hk k ht) (by simp) (fun h=>h)
   rw[this]at hm;cases hm
theorem HI.init(H:Heap){s:List Bool×List Int}(h:MkA H (Held H) s):HI H s (List.replicate H.cells.length wv0) 0 0 (fun _=>False) (fun _=>False):=by
 have hw:∀(k:Nat) e,(List.replicate H.cells.length wv0)[k]?=some e→e=wv0:=fun k e he=>by
  rw[List.getElem?_replicate]at he
  split at he
  ·exact(Option.some.inj he).symm
  ·cases he
 have hc:=h.ok.cnt
 exact⟨h.ok,by omega,by simp,fun e he=>by obtain⟨k,hk⟩:=List.getElem?_of_mem he;rw[hw k e hk];simp[wv0],fun k e he w hw'=>(by rw[hw k e he]at hw';simp[wv0]at hw'),fun i c h1 h2=>absurd (h.all i h1) h2,fun k e he _ _ _=>(by rw[hw k e he];rfl)⟩
abbrev PW:=PQ×List WE
abbrev hoA(m:Mem)(a p1 p2 p3 mb:Nat)(sd:D)(q:PW):List Asr:=seA a p1 p2 p3 sd q.1.2 q.1.1++[wmA mb q.2,wtA q.2,ro m]
theorem holds_a{m:Mem}{a:Nat}{x:HX}(h:Has m (hp a x))(h1:R1 x.H)(h2:R2 x.H)(h4:R4 x.H):FnA Tryd.prog 52 [ptr a] [ro m] (fun v As=>∃sd:D,v=.slice sd.a (heldL x.H).length sd.cap∧As=[slA 1 bv sd (heldL x.H),ro m]):=by
 have hb0:=h.lens
 have hl:=x.len
 have hc1:=h1.cells
 have hc2:=h1.room
 refine fnA_of (fun h=>fn52 (by simp) h) ?_
 repeat' (first
  |(refine k_L ?_;first|refine a_p rfl ?_|(refine k_l ?_;refine g_l rfl ?_)|(refine a_nw (vs:=[ptr a]) rfl rfl (fun p1=>?_))|(refine a_mk (f:=bv) (n:=(x.xs.length:Int)) (k:=(x.xs.length:Int)) false (fun _=>rfl) rfl rfl rfl (by omega) (by omega) (fun sd hsd=>?_)))
  |refine a_n ?_
  |(refine k_V ?_;first|refine v_seq ?_|refine v_reg ?_))
 refine a_nz (fun p2=>?_)
 repeat' (first
  |(refine k_L ?_;first|refine a_p rfl ?_|(refine g_sb rfl rfl rfl rfl ?_)|(refine a_mm (fun mb=>?_)))
  |refine a_n ?_
  |(refine k_V ?_;first|refine v_seq ?_|refine v_reg ?_))
 refine a_nz (fun p3=>?_)
 repeat' (first
  |(refine k_L ?_;first|refine a_p rfl ?_|(refine k_l ?_;refine g_l rfl ?_))
  |refine a_n ?_
  |(refine k_V ?_;first|refine v_seq ?_|refine v_reg ?_)
  |refine s_n ?_)
 have hm0:=mk0 x.H (Held x.H)
 rw[hl]at hm0
 refine VA.ent (ent_new (f:=iv) (size:=1)) ?_
 have hreg:∀w,w∈x.H.regs→∀j,x.H.tgt w=some j→j<x.H.cells.length∧Held x.H j:=fun w hw j hj=>⟨(tgt_lt h2 (h4.regs w hw).1 hj).1,.reg hw hj⟩
 have hfn:fnOk Tryd.prog 62=true:=fnOk_of Tryd.func62 rfl rfl
 refine g_range x.regs.length (fun q:PQ=>[(1,.v (ptr p1)),(3,.v (ptr p2)),(4,.v (.map (some mb))),(5,.v (ptr p3)),(6,.v (.func (.func 62) #[] #[ptr p1,ptr p2,ptr p3])),(29,.v (.slice x.rd.a x.regs.length x.rd.cap))]) (fun q=>seA a p1 p2 p3 sd q.2 q.1++[mpA mb (fun _=>none),ro m])
  (fun i q=>MkA x.H (Held x.H) q.1∧∀w,w∈x.H.regs.take i→Hit x.H q.1.1 w) (((List.replicate x.xs.length false,[]),⟨none,0⟩):PQ) ⟨hm0,by simp⟩ (fun i q hi hv=>?_) (fun q hv=>?_) (hent:=by
  show Ent _ (seA a p1 p2 p3 sd ⟨none,0⟩ (List.replicate x.xs.length false,[])++[mpA mb (fun _=>none),ro m])
  simp only[seA,List.length_replicate]
  exact Pm.ent pmt)
 ·obtain⟨w,gw⟩:∃w,x.regs[i]?=some w:=⟨_,List.getElem?_eq_getElem hi⟩
  have hwm:w∈x.H.regs:=List.mem_of_getElem? gw
  obtain⟨n1,n2,n3⟩:=hv.1.next (hreg w hwm)
  repeat' (first
   |(refine k_L ?_;first|refine a_p rfl ?_|(refine k_i ?_;refine g_i rfl rfl ?_)|(refine k_ls ?_;refine g_ls rfl ?_)|(refine k_st ?_;refine g_sw rfl rfl rfl rfl (Nat.le_of_ble_eq_true rfl) ?_)|(refine k_al ?_;refine a_al ?_)|(refine a_cv rfl hfn rfl (holds1_a (p1:=p1) (p2:=p2) (p3:=p3) (sd:=sd) (kd:=q.2) (w:=w) (S:=Held x.H) h h1 h2 (h4.regs w hwm).1 hv.1.ok) pmt (fun v As' hq=>?_);obtain⟨kd',rfl⟩:=hq))
   |refine a_n ?_
   |(refine k_V ?_;first|refine v_seq ?_|refine v_reg ?_)
   |refine sk_zero ?_
   |refine sk_succ ?_
   |refine wk_nil ?_
   |refine wk_cons ?_)
  refine r_nx ((mkW x.H q.1 w,kd'):PQ) ⟨n1,fun w' hw'=>?_⟩ (he:=Pm.ent pmt)
  rw[List.take_add_one,List.mem_append]at hw'
  rcases hw' with hw'|hw'
  ·exact(hv.2 w' hw').grow n2
  ·rw[show x.H.regs[i]?=some w from gw]at hw'
   simp only[Option.toList_some,List.mem_singleton]at hw'
   subst hw';exact n3
 ·obtain⟨hv1,hv2⟩:=hv
  rw[List.take_of_length_le (by exact Nat.le_refl _)]at hv2
  repeat' (first
   |(refine k_L ?_;first|refine a_p rfl ?_|(refine k_l ?_;refine g_l rfl ?_))
   |refine a_n ?_
   |(refine k_V ?_;first|refine v_seq ?_|refine v_reg ?_)
   |refine s_n ?_)
  refine g_range x.xs.length (fun q:PQ=>[(1,.v (ptr p1)),(3,.v (ptr p2)),(4,.v (.map (some mb))),(5,.v (ptr p3)),(6,.v (.func (.func 62) #[] #[ptr p1,ptr p2,ptr p3])),(42,.v (.slice x.cd.a x.xs.length x.cd.cap))]) (fun q=>seA a p1 p2 p3 sd q.2 q.1++[mpA mb (fun _=>none),ro m])
   (fun i q=>MkA x.H (Held x.H) q.1∧(∀w,w∈x.H.regs→Hit x.H q.1.1 w)∧∀(j:Nat) c,j<i→x.H.cells[j]?=some c→c.last=2→q.1.1[j]?=some true) q ⟨hv1,hv2,fun j c hj=>by omega⟩ (fun i q hi hv=>?_) (fun q hv=>?_) (hent:=Pm.ent pmt)
  ·obtain⟨y,gy,gc⟩:=HX.at hi
   obtain⟨hv1,hv2,hv3⟩:=hv
   by_cases hr:y.c.last=2
   ·have hst:=last2 h2 gc hr
    obtain⟨n1,n2,n3⟩:=hv1.next (w:=⟨2,0,i⟩) (fun j hj=>by
     rw[tgt_root gc hst]at hj
     cases hj
     exact⟨by omega,.due gc hr⟩)
    repeat' (first
     |(refine k_L ?_;first|refine a_p rfl ?_|(refine k_g ?_;first|refine a_gy rfl rfl ?_|(refine a_gd rfl (fun hb=>?_) (fun hb=>?_)<;>try(exfalso;omega)))|(refine k_i ?_;refine g_i rfl rfl ?_)|(refine k_ls ?_;refine g_ls rfl ?_)|(refine k_st ?_;refine g_sw rfl rfl rfl rfl (Nat.le_of_ble_eq_true rfl) ?_)|(refine k_al ?_;refine a_al ?_)|(refine a_cv rfl hfn rfl (holds1_a (p1:=p1) (p2:=p2) (p3:=p3) (sd:=sd) (kd:=q.2) (w:=⟨2,0,i⟩) (S:=Held x.H) h h1 h2 (formed_at (by omega)) hv1.ok) pmt (fun v As' hq=>?_);obtain⟨kd',rfl⟩:=hq))
     |refine a_n ?_
     |(refine k_V ?_;first|refine v_seq ?_|refine v_reg ?_|(refine v_cd rfl (fun hb=>?_) (fun hb=>?_)<;>try(exfalso;omega)))
     |refine sk_zero ?_
     |refine sk_succ ?_
     |refine wk_nil ?_
     |refine wk_cons ?_)
    refine r_nx ((mkW x.H q.1 ⟨2,0,i⟩,kd'):PQ) ⟨n1,fun w' hw'=>(hv2 w' hw').grow n2,fun j c hj hc hl2=>?_⟩ (he:=Pm.ent pmt)
    by_cases e:j=i
    ·subst e
     exact n3 j (tgt_root gc hst)
    ·exact n2.mono j (hv3 j c (by omega) hc hl2)
   ·have nxt:∀(j:Nat) c,j<i+1→x.H.cells[j]?=some c→c.last=2→q.1.1[j]?=some true:=fun j c hj hc hl2=>by
     by_cases e:j=i
     ·subst e;rw[gc]at hc;cases hc;exact absurd hl2 hr
     ·exact hv3 j c (by omega) hc hl2
    repeat' (first
     |(refine k_L ?_;first|refine a_p rfl ?_|(refine k_g ?_;first|refine a_gy rfl rfl ?_|refine a_gn rfl rfl ?_|(refine a_gd rfl (fun hb=>?_) (fun hb=>?_)<;>try(exfalso;omega)))|(refine k_i ?_;refine g_i rfl rfl ?_)|(refine k_ls ?_;refine g_ls rfl ?_)|(refine k_st ?_;refine g_sw rfl rfl rfl rfl (Nat.le_of_ble_eq_true rfl) ?_)|(refine k_al ?_;refine a_al ?_))
     |refine a_n ?_
     |(refine k_V ?_;first|refine v_seq ?_|refine v_reg ?_|refine v_skip ?_|refine v_cf rfl ?_|(refine v_cd rfl (fun hb=>?_) (fun hb=>?_)<;>try(exfalso;omega)))
     |refine sk_zero ?_
     |refine sk_succ ?_
     |refine wk_nil ?_
     |refine wk_cons ?_)
    all_goals exact r_nx q ⟨hv1,hv2,nxt⟩ (he:=Pm.ent pmt)
  ·obtain⟨hv1,hv2,hv3⟩:=hv
   have hfull:HFull x.H q.1.1:=⟨hv2,fun i c hc hr=>hv3 i c (by have:=(List.getElem?_eq_some_iff.1 hc).1;omega) hc hr⟩
   have hi0:=HI.init x.H hv1
   clear hv1 hv2 hv3
   repeat' (first
    |refine a_n ?_
    |(refine k_V ?_;refine v_seq ?_))
   refine VA.ent (Bs:=mpA mb (fun _=>none)::(seA a p1 p2 p3 sd q.2 q.1++[ro m])) (Pm.ent pmt) ?_
   refine VA.ent (ent_wm0 (n:=x.H.cells.length)) ?_
   refine VA.ent (ent_wnil (n:=x.H.cells.length)) ?_
   refine v_blk ?_
   refine v_loop (fun q:PW=>[(1,.v (ptr p1)),(3,.v (ptr p2)),(4,.v (.map (some mb))),(5,.v (ptr p3)),(6,.v (.func (.func 62) #[] #[ptr p1,ptr p2,ptr p3]))]) (fun q=>hoA m a p1 p2 p3 mb sd q)
    (fun k q=>k=2*q.1.1.1.count false+q.1.1.2.length∧(∃pc,HI x.H q.1.1 q.2 (200*pc) pc (fun _=>False) (fun _=>False))∧HFull x.H q.1.1.1) ⟨_,(q,List.replicate x.H.cells.length wv0),⟨rfl,rfl,rfl,rfl,rfl,trivial⟩,Pm.ent pmt,rfl,⟨0,hi0⟩,hfull⟩ ?_
   clear hi0 hfull
   rintro k ⟨⟨⟨seen,stk⟩,kd⟩,W⟩ ⟨rfl,⟨pc,hI⟩,hfull⟩
   dsimp only at hI hfull⊢
   rcases(show stk=[]∨∃init g,stk=init++[g]from by
    by_cases hne:stk=[]
    ·exact .inl hne
    ·exact .inr ⟨_,_,(List.dropLast_concat_getLast hne).symm⟩)with rfl|⟨init,g,rfl⟩
   ·have e:=hI.fin hfull
    subst e
    repeat' (first
     |(refine k_L ?_;first|refine a_p rfl ?_|(refine k_l ?_;refine g_l rfl ?_))
     |refine a_n ?_
     |(refine k_V ?_;first|refine v_seq ?_|refine v_reg ?_|refine v_ret ?_|refine v_exit ?_|refine v_cf rfl ?_))
    exact fa_r (As':=[slA 1 bv sd (heldL x.H),ro m]) (fun _ _=>rfl) (Pm.ent pmt) ⟨sd,rfl,rfl⟩
   ·obtain⟨j,rfl,hj⟩:=hI.mk'.stk g (by simp)
    dsimp only at hj
    have hHj:=hI.mk'.snd j hj
    have hjn:j<x.H.cells.length:=by
     have h1':=(List.getElem?_eq_some_iff.1 hj).1
     have h2':=hI.mk'.len
     dsimp only at h2'
     omega
    have hjl:j<x.xs.length:=by omega
    obtain⟨y,gy,gc⟩:=HX.at hjl
    have hpl:=h2.pl (List.mem_of_getElem? gc)
    have hlen:(init++[(j:Int)]).length=init.length+1:=by simp
    have gj:(init++[(j:Int)])[(((init++[(j:Int)]).length:Int)-1).toNat]?=some (j:Int):=by
     rw[hlen,show(((init.length+1:Nat):Int)-1).toNat=init.length by omega];simp
    have hcnt:=hI.pc
    dsimp only at hcnt
    have e0:(((init++[(j:Int)]).length:Int)-1).toNat=init.length:=by rw[hlen];omega
    obtain⟨we,hwe⟩:∃we,W[j]?=some we:=⟨_,List.getElem?_eq_getElem (by rw[hI.wl];exact hjn)⟩
    have hwlen:=hI.wlen we (List.mem_of_getElem? hwe)
    have hI1:=hI.pop
    refine v_kn (p:=(init++[(j:Int)]).length≤kd.cap) (kn_t (kn_t (kn_t (kn_t (kn_h cp_sl))))) (fun hcap=>?_)
    refine VA.ent (Bs:=wmA mb W::wtA W::(seA a p1 p2 p3 sd kd (seen,init++[(j:Int)])++[ro m])) (Pm.ent pmt) ?_
    refine v_wm (fun gm hgm=>?_)
    have hlk:(gm (j:Int)).getD (.slice none 0 0)=.slice we.1.a we.2.length we.1.cap:=hgm j we hwe
    refine VA.ent (Bs:=wtA W::mpA mb gm::(seA a p1 p2 p3 sd kd (seen,init++[(j:Int)])++[ro m])) (Pm.ent pmt) ?_
    refine VA.ent (ent_wout hwe) ?_
    repeat' (first
     |(refine k_L ?_;first|(refine k_su ?_;refine g_su rfl rfl ?_)|refine a_p rfl ?_|(refine k_l ?_;refine g_l rfl ?_)|(refine k_i ?_;refine g_i rfl rfl ?_)|(refine g_sb rfl rfl rfl rfl ?_)|(refine g_tk rfl rfl ?_)|(refine a_lk (by(fail_if_success apply pk_bad);(repeat(first|exact pk_h|apply pk_t));fail_if_success focus skip) rfl rfl hlk ?_))
     |refine a_n ?_
     |(refine k_V ?_;first|refine v_seq ?_|refine v_reg ?_|refine v_bs ?_|refine v_ret ?_|refine v_exit ?_|refine v_skip ?_|(refine v_cd rfl (fun hb=>?_) (fun hb=>?_)<;>try(exfalso;omega)))
     |refine s_n ?_)
    rotate_left
    ·exfalso;simp at hb
    rw[e0]
    refine VA.ent (Bs:=[slA 1 iv kd (init++[(j:Int)]),bx p1 [ptr a],bx p2 [.slice sd.a seen.length sd.cap],slA 1 bv sd seen,bx p3 [.slice kd.a init.length kd.cap],slA 3 wv we.1 we.2,mpA mb gm,wtA (W.eraseIdx j),ro m]) (Pm.ent pmt) ?_
    refine VA.ent (ent_pre iv_len) ?_
    refine g_range we.2.length (fun q:PQ=>[(1,.v (ptr p1)),(3,.v (ptr p2)),(4,.v (.map (some mb))),(5,.v (ptr p3)),(6,.v (.func (.func 62) #[] #[ptr p1,ptr p2,ptr p3])),(11,.v (.int .i64 j)),(78,.v (.slice we.1.a we.2.length we.1.cap))]) (fun q=>seA a p1 p2 p3 sd q.2 q.1++[slA 3 wv we.1 we.2,mpA mb gm,wtA (W.eraseIdx j),ro m])
     (fun i q=>HI x.H q.1 W (200*pc) (pc+1) (fun i=>i=j) (fun i=>i=j)∧Grow (seen,init) q.1∧∀w,w∈we.2.take i→Hit x.H q.1.1 w) (((seen,init),kd):PQ) ⟨hI1,Grow.refl _,by simp⟩ (fun i q hi hv=>?_) (fun q hv=>?_) (hent:=Pm.ent pmt)
    ·obtain⟨w,gw⟩:∃w,we.2[i]?=some w:=⟨_,List.getElem?_eq_getElem hi⟩
     obtain⟨hv1,hv2,hv3⟩:=hv
     obtain⟨k1,k2⟩:=hI.wok j we hwe w (List.mem_of_getElem? gw)
     obtain⟨n1,n2,n3⟩:=hv1.mark (k2 hHj)
     repeat' (first
      |(refine k_L ?_;first|refine a_p rfl ?_|(refine k_i ?_;refine g_i rfl rfl ?_)|(refine k_ls ?_;refine g_ls rfl ?_)|(refine k_st ?_;refine g_sw rfl rfl rfl rfl (Nat.le_of_ble_eq_true rfl) ?_)|(refine k_al ?_;refine a_al ?_)|(refine a_cv rfl hfn rfl (holds1_a (p1:=p1) (p2:=p2) (p3:=p3) (sd:=sd) (kd:=q.2) (w:=w) (S:=Held x.H) h h1 h2 k1 hv1.mk') pmt (fun v As' hq=>?_);obtain⟨kd',rfl⟩:=hq))
      |refine a_n ?_
      |(refine k_V ?_;first|refine v_seq ?_|refine v_reg ?_)
      |refine sk_zero ?_
      |refine sk_succ ?_
      |refine wk_nil ?_
      |refine wk_cons ?_)
     refine r_nx ((mkW x.H q.1 w,kd'):PQ) ⟨n1,hv2.trans n2,fun w' hw'=>?_⟩ (he:=Pm.ent pmt)
     rw[List.take_add_one,List.mem_append]at hw'
     rcases hw' with hw'|hw'
     ·exact(hv3 w' hw').grow n2
     ·rw[gw]at hw'
      simp only[Option.toList_some,List.mem_singleton]at hw'
      subst hw';exact n3
    ·obtain⟨hv1,hv2,hv3⟩:=hv
     rw[List.take_of_length_le (Nat.le_refl _)]at hv3
     have hI2:=hv1.clr hwe hv3
     repeat' (first
      |(refine k_L ?_;first|refine a_p rfl ?_|(refine k_l ?_;refine g_l rfl ?_)|(refine k_i ?_;refine g_i rfl rfl ?_)|(refine k_ls ?_;refine g_ls rfl ?_)|(refine k_st ?_;refine g_sw rfl rfl rfl rfl (Nat.le_of_ble_eq_true rfl) ?_)|(refine k_al ?_;refine a_al ?_)|(refine a_md (by(fail_if_success apply pk_bad);(repeat(first|exact pk_h|apply pk_t));fail_if_success focus skip) rfl rfl ?_))
      |refine a_n ?_
      |(refine k_V ?_;first|refine v_seq ?_|refine v_reg ?_)
      |refine s_n ?_
      |refine sk_zero ?_
      |refine sk_succ ?_
      |refine wk_nil ?_
      |refine wk_cons ?_)
     refine VA.ent (Bs:=mpA mb (fun i=>if i=(j:Int)then none else gm i)::wtA (W.eraseIdx j)::(seA a p1 p2 p3 sd q.2 q.1++[ro m])) (Pm.ent pmt) ?_
     refine VA.ent (ent_wm (wm_clr hgm)) ?_
     refine VA.ent (Bs:=wtA (W.eraseIdx j)::wmA mb (W.set j wv0)::(seA a p1 p2 p3 sd q.2 q.1++[ro m])) (Pm.ent pmt) ?_
     refine VA.ent (ent_wclr (List.getElem?_eq_some_iff.1 hwe).1) ?_
     refine g_range y.c.pairs.length (fun q:PW=>[(1,.v (ptr p1)),(3,.v (ptr p2)),(4,.v (.map (some mb))),(5,.v (ptr p3)),(6,.v (.func (.func 62) #[] #[ptr p1,ptr p2,ptr p3])),(14,.box (csw y)),(98,.v (.slice y.d.a y.c.pairs.length y.d.cap))]) (fun q=>hoA m a p1 p2 p3 mb sd q)
      (fun k q=>HI x.H q.1.1 q.2 (200*pc+k) (pc+1) (fun i=>i=j) (fun _=>False)∧Grow (seen,init) q.1.1∧∀p,p∈y.c.pairs.take k→PairOk x.H q.1.1.1 q.2 y.c p) ((q,W.set j wv0):PW) ⟨hI2,hv2,by simp⟩ (fun k q hk hv=>?_) (fun q hv=>?_) (hent:=Pm.ent pmt)
     ·obtain⟨p,gp⟩:∃p,y.c.pairs[k]?=some p:=⟨_,List.getElem?_eq_getElem hk⟩
      have hpm:=List.mem_of_getElem? gp
      obtain⟨k1,v1,_⟩:=h4.pairs j y.c gc k p gp
      obtain⟨⟨qs,kd2⟩,Wq⟩:=q
      obtain⟨hv1,hv2,hv3⟩:=hv
      dsimp only at hv1 hv2 hv3⊢
      have ck:KeyW y.c→∀j',x.H.tgt p.key=some j'→j'<x.H.cells.length∧Held x.H j':=fun hK j' hj'=>⟨(tgt_lt h2 k1 hj').1,.key hHj gc hpm hK hj'⟩
      have cv:ValW y.c→(∀i,x.H.tgt p.key=some i→Held x.H i)→∀j',x.H.tgt p.val=some j'→j'<x.H.cells.length∧Held x.H j':=fun hV hH j' hj'=>⟨(tgt_lt h2 v1 hj').1,.val hHj gc hpm hV hH hj'⟩
      have hkey:HI x.H (keyS x.H y.c p qs) Wq (200*pc+k) (pc+1) (fun i=>i=j) (fun _=>False)∧Grow qs (keyS x.H y.c p qs)∧(KeyW y.c→Hit x.H (keyS x.H y.c p qs).1 p.key):=by
       unfold keyS
       by_cases hK:KeyW y.c
       ·rw[if_pos hK]
        obtain⟨a,b,d⟩:=hv1.mark (ck hK)
        exact⟨a,b,fun _=>d⟩
       ·rw[if_neg hK]
        exact⟨hv1,Grow.refl _,fun h=>absurd h hK⟩
      refine v_seq ?_
      repeat' (first
       |(refine k_L ?_;first|(refine k_i ?_;refine g_i rfl rfl ?_)|(refine k_ls ?_;refine g_ls rfl ?_)|(refine k_st ?_;refine g_sw rfl rfl rfl rfl (Nat.le_of_ble_eq_true rfl) ?_)|(refine k_al ?_;refine a_al ?_))
       |refine a_n ?_
       |(refine k_V ?_;refine v_reg ?_)
       |refine s_n ?_
       |refine sk_zero ?_
       |refine sk_succ ?_
       |refine wk_nil ?_
       |refine wk_cons ?_)
      refine g_cut (fun q2:PQ=>[(1,.v (ptr p1)),(3,.v (ptr p2)),(4,.v (.map (some mb))),(5,.v (ptr p3)),(6,.v (.func (.func 62) #[] #[ptr p1,ptr p2,ptr p3])),(14,.box (csw y)),(16,.box (pv p)),(98,.v (.slice y.d.a y.c.pairs.length y.d.cap)),(99,.v (.int .i64 y.c.pairs.length)),(100,.v (.int .i64 k))]) (fun q2=>hoA m a p1 p2 p3 mb sd (q2,Wq)) (fun q2=>q2.1=keyS x.H y.c p qs) ?_ (fun q2 hq2=>?_)
      ·by_cases hK:KeyW y.c
       ·have hkw:=hK
        unfold KeyW at hkw
        repeat' (first
         |(refine k_L ?_;first|refine a_p rfl ?_|(refine a_cv rfl hfn rfl (holds1_a (p1:=p1) (p2:=p2) (p3:=p3) (sd:=sd) (kd:=kd2) (w:=p.key) (S:=Held x.H) h h1 h2 k1 hv1.mk') pmt (fun v As' hq=>?_);obtain⟨kd',rfl⟩:=hq))
         |refine a_n ?_
         |(refine k_V ?_;first|refine v_seq ?_|refine v_reg ?_|(refine v_cd rfl (fun hb=>?_) (fun hb=>?_)<;>try(exfalso;omega)))
         |refine s_n ?_)
        exact j_i ((mkW x.H qs p.key,kd'):PQ) (by unfold keyS;rw[if_pos hK]) (he:=Pm.ent pmt)
       ·have hkw:=hK
        unfold KeyW at hkw
        repeat' (first
         |(refine k_L ?_;refine a_p rfl ?_)
         |refine a_n ?_
         |(refine k_V ?_;first|refine v_seq ?_|refine v_reg ?_|refine v_skip ?_|(refine v_cd rfl (fun hb=>?_) (fun hb=>?_)<;>try(exfalso;omega)))
         |refine s_n ?_)
        exact j_i ((qs,kd2):PQ) (by unfold keyS;rw[if_neg hK]) (he:=Pm.ent pmt)
      ·obtain⟨q2,kd3⟩:=q2
       dsimp only at hq2⊢
       subst hq2
       obtain⟨a1,a2,a4⟩:=hkey
       generalize keyS x.H y.c p qs=ks at a1 a2 a4
       have hat:=fun hk2=>k1.at hk2
       have old:∀p',p'∈y.c.pairs.take k→PairOk x.H ks.1 Wq y.c p':=fun p' hp'=>(hv3 p' hp').grow a2
       have nx:∀{t:List Bool×List Int} {W':List WE},(∀p',PairOk x.H ks.1 Wq y.c p'→PairOk x.H t.1 W' y.c p')→PairOk x.H t.1 W' y.c p→∀p',p'∈y.c.pairs.take (k+1)→PairOk x.H t.1 W' y.c p':=fun ho hn p' hp'=>by
        rw[List.take_add_one,List.mem_append]at hp'
        rcases hp' with hp'|hp'
        ·exact ho p' (old p' hp')
        ·rw[gp]at hp'
         simp only[Option.toList_some,List.mem_singleton]at hp'
         subst hp';exact hn
       by_cases hV:ValW y.c
       ·have hvw:=hV
        unfold ValW at hvw
        by_cases hk2:p.key.kind=2
        ·have ht:x.H.tgt p.key=some (x.H.lead p.key).at_.toNat:=by unfold Heap.tgt;rw[if_pos (lead_kind.2 hk2)]
         have hlt:=tgt_lt h2 k1 ht
         generalize(x.H.lead p.key).at_.toNat=kk at ht hlt
         have e:x.H.toI p.key=(kk:Int):=by unfold Heap.toI;rw[if_pos hk2];exact hlt.2.2
         have hksl:=a1.mk'.len
         have hkl:=hlt.1
         obtain⟨b,gb⟩:∃b,ks.1[kk]?=some b:=⟨_,List.getElem?_eq_getElem (by rw[a1.mk'.len];exact hlt.1)⟩
         cases b with
         |true=>
          have hH:∀i,x.H.tgt p.key=some i→Held x.H i:=fun i hi=>by rw[ht]at hi;cases hi;exact a1.mk'.snd kk gb
          obtain⟨b1,b2,b3⟩:=a1.mark (cv hV hH)
          repeat' (first
           |(refine k_L ?_;first|refine a_p rfl ?_|(refine k_g ?_;refine a_gy rfl rfl ?_)|(refine k_l ?_;refine g_l rfl ?_)|(refine k_i ?_;refine g_i rfl rfl ?_)|(refine k_c ?_;refine a_cq rfl (fun m hm=>qt_e (to_q (has_g h hm) hat) (by rw[e])) ?_)|(refine a_cv rfl hfn rfl (holds1_a (p1:=p1) (p2:=p2) (p3:=p3) (sd:=sd) (kd:=kd3) (w:=p.val) (S:=Held x.H) h h1 h2 v1 a1.mk') pmt (fun v As' hq=>?_);obtain⟨kd',rfl⟩:=hq))
           |refine a_n ?_
           |(refine k_V ?_;first|refine v_seq ?_|refine v_reg ?_|refine v_skip ?_|refine v_ct rfl ?_|(refine v_cn rfl (fun hb=>?_) (fun hb=>?_)<;>try(exfalso;omega))))
          exact r_nx (((mkW x.H ks p.val,kd'),Wq):PW) ⟨b1.weak (by omega),(hv2.trans a2).trans b2,nx (fun p' hp'=>hp'.grow b2) ⟨fun hK=>(a4 hK).grow b2,fun _=>.inl b3⟩⟩ (he:=Pm.ent pmt)
         |false=>
          obtain⟨wk,hwk⟩:∃wk,Wq[kk]?=some wk:=⟨_,List.getElem?_eq_getElem (by rw[a1.wl];exact hlt.1)⟩
          have hwkl:=a1.wlen wk (List.mem_of_getElem? hwk)
          have hpc:=a1.pc
          have hkkl:=(List.getElem?_eq_some_iff.1 hwk).1
          refine VA.ent (Bs:=wmA mb Wq::wtA Wq::(seA a p1 p2 p3 sd kd3 ks++[ro m])) (Pm.ent pmt) ?_
          refine v_wm (fun gw hgw=>?_)
          have hlk2:(gw (kk:Int)).getD (.slice none 0 0)=.slice wk.1.a wk.2.length wk.1.cap:=hgw kk wk hwk
          refine VA.ent (Bs:=wtA Wq::mpA mb gw::(seA a p1 p2 p3 sd kd3 ks++[ro m])) (Pm.ent pmt) ?_
          refine VA.ent (ent_wout hwk) ?_
          repeat' (first
           |(refine k_L ?_;first|refine a_p rfl ?_|(refine k_g ?_;refine a_gy rfl rfl ?_)|(refine k_l ?_;refine g_l rfl ?_)|(refine k_i ?_;refine g_i rfl rfl ?_)|(refine k_bl ?_;refine a_bl rfl ?_)|(refine k_c ?_;refine a_cq rfl (fun m hm=>qt_e (to_q (has_g h hm) hat) (by rw[e])) ?_)|(refine a_lk (by(fail_if_success apply pk_bad);(repeat(first|exact pk_h|apply pk_t));fail_if_success focus skip) rfl rfl hlk2 ?_)|(refine g_ap (f:=wv) p.val wv_len rfl rfl rfl ⟨by omega,by omega⟩ (fun e'=>?_))|(refine a_mu (by(fail_if_success apply pk_bad);(repeat(first|exact pk_h|apply pk_t));fail_if_success focus skip) rfl rfl rfl ?_))
           |refine a_n ?_
           |(refine k_V ?_;first|refine v_seq ?_|refine v_reg ?_|refine v_skip ?_|refine v_cf rfl ?_|(refine v_cn rfl (fun hb=>?_) (fun hb=>?_)<;>try(exfalso;omega))))
          obtain⟨c1,c2⟩:=a1.wait (d:=e') (w:=p.val) hwk gb ⟨v1,fun hHk=>cv hV (fun i hi=>by rw[ht]at hi;cases hi;exact hHk)⟩
          refine r_nx (((ks,kd3),Wq.set kk (e',wk.2++[p.val])):PW) ⟨c1.weak (by omega),hv2.trans a2,nx (fun p' hp'=>c2 y.c p' hp') ⟨a4,fun _=>.inr ⟨kk,(e',wk.2++[p.val]),ht,by rw[List.getElem?_set,if_pos rfl,if_pos hkkl],by simp⟩⟩⟩ (he:=?_)
          refine Ent.trans (B:=slA 3 wv e' (wk.2++[p.val])::wtA (Wq.eraseIdx kk)::mpA mb (fun i=>if i=(kk:Int)then some (WE.sl (e',wk.2++[p.val]))else gw i)::(seA a p1 p2 p3 sd kd3 ks++[ro m])) (Pm.ent pmt) ?_
          refine Ent.trans (ent_win (e':=(e',wk.2++[p.val])) hkkl) ?_
          refine Ent.trans (B:=mpA mb (fun i=>if i=(kk:Int)then some (WE.sl (e',wk.2++[p.val]))else gw i)::wtA (Wq.set kk (e',wk.2++[p.val]))::(seA a p1 p2 p3 sd kd3 ks++[ro m])) (Pm.ent pmt) ?_
          refine Ent.trans (ent_wm (wm_put hgw)) ?_
          exact Pm.ent pmt
        ·have ht:x.H.tgt p.key=none:=by unfold Heap.tgt;rw[if_neg (fun h=>hk2 (lead_kind.1 h))]
         have e:x.H.toI p.key= -1:=by unfold Heap.toI;rw[if_neg hk2]
         have hH:∀i,x.H.tgt p.key=some i→Held x.H i:=fun i hi=>by rw[ht]at hi;cases hi
         obtain⟨b1,b2,b3⟩:=a1.mark (cv hV hH)
         repeat' (first
          |(refine k_L ?_;first|refine a_p rfl ?_|(refine k_g ?_;refine a_gn rfl rfl ?_)|(refine k_l ?_;refine g_l rfl ?_)|(refine k_c ?_;refine a_cq rfl (fun m hm=>qt_e (to_q (has_g h hm) hat) (by rw[e])) ?_)|(refine a_cv rfl hfn rfl (holds1_a (p1:=p1) (p2:=p2) (p3:=p3) (sd:=sd) (kd:=kd3) (w:=p.val) (S:=Held x.H) h h1 h2 v1 a1.mk') pmt (fun v As' hq=>?_);obtain⟨kd',rfl⟩:=hq))
          |refine a_n ?_
          |(refine k_V ?_;first|refine v_seq ?_|refine v_reg ?_|refine v_skip ?_|refine v_ct rfl ?_|(refine v_cn rfl (fun hb=>?_) (fun hb=>?_)<;>try(exfalso;omega))))
         exact r_nx (((mkW x.H ks p.val,kd'),Wq):PW) ⟨b1.weak (by omega),(hv2.trans a2).trans b2,nx (fun p' hp'=>hp'.grow b2) ⟨fun hK=>(a4 hK).grow b2,fun _=>.inl b3⟩⟩ (he:=Pm.ent pmt)
       ·have hvw:=hV
        unfold ValW at hvw
        repeat' (first
         |(refine k_L ?_;refine a_p rfl ?_)
         |refine a_n ?_
         |(refine k_V ?_;first|refine v_seq ?_|refine v_reg ?_|refine v_exit ?_|(refine v_cn rfl (fun hb=>?_) (fun hb=>?_)<;>try(exfalso;omega)))
         |refine s_e ?_)
        exact r_ct (((ks,kd3),Wq):PW) ⟨a1.weak (by omega),hv2.trans a2,nx (fun p' hp'=>hp') ⟨a4,fun h=>absurd h hV⟩⟩ (he:=Pm.ent pmt)
     ·obtain⟨hv1,hv2,hv3⟩:=hv
      rw[List.take_of_length_le (Nat.le_refl _)]at hv3
      have hI3:=(hv1.done gc hv3).weak (B':=200*(pc+1)) (by omega)
      repeat' (first
       |refine a_n ?_
       |refine s_n ?_
       |refine b_n ?_)
      refine⟨_,q,?_,⟨rfl,rfl,rfl,rfl,rfl,trivial⟩,Pm.ent pmt,rfl,⟨pc+1,hI3⟩,⟨fun w hw=>(hfull.regs w hw).grow hv2,fun i c hc hl2=>hv2.mono i (hfull.dues i c hc hl2)⟩⟩
      have:=hv2.msr
      dsimp only at this
      omega
theorem pr_repl{ys:List CS}{i:Nat}{y y':CS}{R:List Asr}(hi:ys[i]?=some y):Ent (prA ys::slA 6 pv y'.d y'.c.pairs::R) (prA (ys.set i y')::R):=⟨fun m hm=>by
 obtain⟨a,r,dj,rfl,h1,b,c,d2,rfl,h2,h3⟩:=hm
 obtain⟨a1,a2,d1,rfl,k1,k2⟩:=star2.1 (pr_out hi h1)
 have hlt:=(List.getElem?_eq_some_iff.1 hi).1
 obtain⟨e1,e2⟩:=disj_un.1 dj
 have e3:=(disj_un'.1 e1).2
 have e4:=(disj_un'.1 e2).2
 have s1:prA (ys.set i y') (b.un a2):=pr_in hlt (star2.2 ⟨b,a2,e3.symm,rfl,h2,k2⟩)
 refine⟨(b.un a2).un c,?_,_,c,disj_un'.2 ⟨d2,e4⟩,rfl,s1,h3⟩
 intro x k hk
 cases h:(b.un a2) x with
 |some k'=>
  rw[un_l h]at hk;cases hk
  cases hb:b x with
  |some k2=>rw[un_l hb]at h;cases h;exact un_r dj (un_l hb)
  |none=>rw[un_n hb]at h;exact un_l (un_r d1 h)
 |none=>rw[un_n h]at hk;exact un_r dj (un_r d2 hk)⟩
theorem a_cs{P:Program}{S:St}{As R:List Asr}{post:St→List Asr→Prop}{r:List I}{x v:Operand}{cd d:D}{ys:List CS}{i:Nat}{y:CS}(ps:List Pair)(hi:ys[i]?=some y)(hx:lc S x=some (.mm cd.b (cd.o+i*8+7)))(hy:ev S v=some (.slice d.a ps.length d.cap))
 (hp:LA P r post S (clA cd (ys.set i ⟨{y.c with pairs:=ps},d.a,d.cap⟩)::R)) (hm:Pm As [clA cd ys,slA 6 pv d ps] R:=by exact pmt):LA P (⟨none,none,.store 1 x v⟩::r) post S As:=by
 refine LA.ent (Bs:=slA 8 csv cd ys::prA ys::slA 6 pv d ps::R) ?_ ?_
 ·refine Ent.trans ⟨fun m hm'=>⟨m,Mem.le_refl _,hm.out m hm'⟩⟩ ?_
  exact cl_open
 refine a_st (n:=1) hx hy rfl rfl (up_h (up_sl (j:=7) (e':=⟨{y.c with pairs:=ps},d.a,d.cap⟩) csv_len hi (by simp[Value.cells]) rfl)) ?_
 refine LA.ent ?_ hp
 refine Ent.trans (Ent.cons (pr_repl (y':=⟨{y.c with pairs:=ps},d.a,d.cap⟩) hi)) ?_
 exact cl_close
theorem tgt_toI{H:Heap}{w:Word}(h2:R2 H)(hf:Formed H w):(∃j:Nat,H.tgt w=some j∧H.toI w=j∧j<H.cells.length)∨(H.tgt w=none∧H.toI w= -1):=by
 by_cases hk:w.kind=2
 ·left
  have ht:H.tgt w=some (H.lead w).at_.toNat:=by unfold Heap.tgt;rw[if_pos (lead_kind.2 hk)]
  have hl:=tgt_lt h2 hf ht
  refine⟨_,ht,?_,hl.1⟩
  unfold Heap.toI
  rw[if_pos hk];exact hl.2.2
 ·right
  refine⟨?_,toI_no hk⟩
  unfold Heap.tgt
  rw[if_neg (fun h=>hk (lead_kind.1 h))]
theorem heldL_get{H:Heap}{j:Nat}(h:j<H.cells.length):(heldL H)[j]?=some (decide (Held H j)):=by
 unfold heldL
 rw[List.getElem?_map,List.getElem?_range h];rfl
theorem Like.toI{H K:Heap}(h:Like H K)(w:Word):K.toI w=H.toI w:=by
 unfold Heap.toI
 rw[h.lead]
theorem Like.formed{H K:Heap}(h:Like H K){w:Word}(hf:Formed H w):Formed K w:=formed_len h.len hf
theorem lost_q{m:Mem}{a b1 b2:Nat}{z:HX}{H:Heap}{sd:D}{w:Word}(h:Has m (hp a z))(hb:Has m [bx b1 [ptr a],bx b2 [.slice sd.a (heldL H).length sd.cap],slA 1 bv sd (heldL H)])(h2:R2 H)(hl:Like H z.H)(hf:Formed H w):
 Qt Tryd.prog 61 [wa w,ptr b1,ptr b2] m (.bool (decide (Lost H w))):=by
 refine qt_of (fnA_of (fun h=>fn61 (by simp) h) ?_)
 have hat:=fun hk=>(hl.formed hf).at hk
 have hln:=heldL_len H
 rcases tgt_toI h2 hf with⟨j,ht,he,hj⟩|⟨ht,he⟩
 ·have hg:=heldL_get hj
  by_cases hh:Held H j
  ·rw[decide_eq_true hh]at hg
   repeat' (first
    |(refine k_L ?_;first|refine a_p rfl ?_|(refine k_g ?_;refine a_gy rfl rfl ?_)|(refine k_l ?_;first|refine a_l rfl (by exact rd_h (rd_ro hb (rd_h (rd_bx rfl)))) ?_|refine a_l rfl (by exact rd_h (rd_ro hb (rd_t (rd_h (rd_bx rfl))))) ?_|refine a_l rfl (by exact rd_h (rd_ro hb (rd_t (rd_t (rd_h (r_bool hg)))))) ?_)|(refine k_i ?_;refine g_i rfl rfl ?_)|(refine k_bx ?_;refine a_bx rfl rfl ?_)|(refine k_c ?_;refine a_cq rfl (fun m hm=>qt_e (to_q (x:=z) (has_g h hm) hat) (by rw[hl.toI,he])) ?_))
    |refine a_n ?_
    |(refine k_V ?_;first|refine v_seq ?_|refine v_reg ?_|refine v_ret ?_))
   exact fa_q (by simp) (fun _ _=>rfl) (ret_f (fun⟨k,hk,hn⟩=>by rw[ht]at hk;cases hk;exact hn hh))
  ·rw[decide_eq_false hh]at hg
   repeat' (first
    |(refine k_L ?_;first|refine a_p rfl ?_|(refine k_g ?_;refine a_gy rfl rfl ?_)|(refine k_l ?_;first|refine a_l rfl (by exact rd_h (rd_ro hb (rd_h (rd_bx rfl)))) ?_|refine a_l rfl (by exact rd_h (rd_ro hb (rd_t (rd_h (rd_bx rfl))))) ?_|refine a_l rfl (by exact rd_h (rd_ro hb (rd_t (rd_t (rd_h (r_bool hg)))))) ?_)|(refine k_i ?_;refine g_i rfl rfl ?_)|(refine k_bx ?_;refine a_bx rfl rfl ?_)|(refine k_c ?_;refine a_cq rfl (fun m hm=>qt_e (to_q (x:=z) (has_g h hm) hat) (by rw[hl.toI,he])) ?_))
    |refine a_n ?_
    |(refine k_V ?_;first|refine v_seq ?_|refine v_reg ?_|refine v_ret ?_))
   exact fa_q (by simp) (fun _ _=>rfl) (ret_t ⟨j,ht,hh⟩)
 ·repeat' (first
   |(refine k_L ?_;first|refine a_p rfl ?_|(refine k_g ?_;refine a_gn rfl rfl ?_)|(refine k_l ?_;refine a_l rfl (by exact rd_h (rd_ro hb (rd_h (rd_bx rfl)))) ?_)|(refine k_bx ?_;refine a_bx rfl rfl ?_)|(refine k_c ?_;refine a_cq rfl (fun m hm=>qt_e (to_q (x:=z) (has_g h hm) hat) (by rw[hl.toI,he])) ?_))
   |refine a_n ?_
   |(refine k_V ?_;first|refine v_seq ?_|refine v_reg ?_|refine v_ret ?_))
  exact fa_q (by simp) (fun _ _=>rfl) (ret_f (fun⟨k,hk,hn⟩=>by rw[ht]at hk;cases hk))
theorem walked_q{m:Mem}{a:Nat}{x:HX}(h:Has m (hp a x)):Qt Tryd.prog 59 [ptr a] m (.int .i64 x.H.walkedI):=by
 refine qt_of (fnA_of (fun h=>fn59 (by simp) h) ?_)
 have hnc:x.hdr.nc=x.xs.length:=rfl
 have hng:x.hdr.ng=x.gray.length:=rfl
 have hl:=x.len
 have hp0:x.hdr.phase=x.H.phase:=rfl
 have hh0:x.hdr.hand=x.H.hand:=rfl
 have hlen:=h.lens
 unfold Heap.walkedI
 by_cases c:x.H.phase=2∧x.H.gray≠[]
 ·rw[if_pos c]
  obtain⟨g,r,hg⟩:∃g r,x.gray=g::r:=by
   cases e:x.gray with
   |nil=>exact absurd (show x.H.gray=[]from e) c.2
   |cons g r=>exact⟨g,r,rfl⟩
  have hgl:x.gray.length=r.length+1:=by rw[hg];rfl
  have gg:x.gray[(0:Int).toNat]?=some g:=by rw[hg];rfl
  have c1:=c.1
  have e1:x.H.gray.headD 0=g:=by show x.gray.headD 0=g;rw[hg];rfl
  rw[e1]
  repeat' (first
   |(refine k_L ?_;first|refine a_p rfl ?_|(refine k_g ?_;first|refine a_gy rfl rfl ?_|(refine a_gd rfl (fun hb=>?_) (fun hb=>?_)<;>try(exfalso;omega)))|(refine k_l ?_;refine g_l rfl ?_)|(refine k_i ?_;refine g_i rfl rfl ?_))
   |refine a_n ?_
   |(refine k_V ?_;first|refine v_seq ?_|refine v_reg ?_|refine v_bs ?_|refine v_ret ?_|(refine v_cd rfl (fun hb=>?_) (fun hb=>?_)<;>try(exfalso;omega)))
   |refine s_r ?_
   |refine b_r ?_)
  exact fa_q (by simp) (fun _ _=>rfl) rfl
 ·rw[if_neg c]
  have hgz:x.H.phase=2→x.gray.length=0:=fun e=>by
   cases e2:x.gray with
   |nil=>rfl
   |cons g r=>exact absurd ⟨e,by show x.gray≠[];rw[e2];simp⟩ c
  by_cases c2:x.H.phase=5∧x.H.hand<x.H.cells.length
  ·rw[if_pos c2]
   have c3:=c2.1
   have c4:=c2.2
   repeat' (first
    |(refine k_L ?_;first|refine a_p rfl ?_|(refine k_g ?_;first|refine a_gy rfl rfl ?_|refine a_gn rfl rfl ?_|(refine a_gd rfl (fun hb=>?_) (fun hb=>?_)<;>try(exfalso;omega)))|(refine k_l ?_;refine g_l rfl ?_))
    |refine a_n ?_
    |(refine k_V ?_;first|refine v_seq ?_|refine v_reg ?_|refine v_dreg ?_|refine v_bs ?_|refine v_ret ?_|refine v_cf rfl ?_|(refine v_cd rfl (fun hb=>?_) (fun hb=>?_)<;>try(exfalso;omega)))
    |refine s_r ?_
    |refine b_r ?_)
   all_goals exact fa_q (by simp) (fun _ _=>rfl) rfl
  ·rw[if_neg c2]
   have c5:x.H.phase=5→¬x.H.hand<x.H.cells.length:=fun a b=>c2 ⟨a,b⟩
   repeat' (first
    |(refine k_L ?_;first|refine a_p rfl ?_|(refine k_g ?_;first|refine a_gy rfl rfl ?_|refine a_gn rfl rfl ?_|(refine a_gd rfl (fun hb=>?_) (fun hb=>?_)<;>try(exfalso;omega)))|(refine k_l ?_;refine g_l rfl ?_))
    |refine a_n ?_
    |(refine k_V ?_;first|refine v_rv ?_|refine v_seq ?_|refine v_reg ?_|refine v_dreg ?_|refine v_bs ?_|refine v_skip ?_|refine v_cf rfl ?_|(refine v_cd rfl (fun hb=>?_) (fun hb=>?_)<;>try(exfalso;omega))))
   all_goals exact fa_q (by simp) (fun _ _=>rfl) rfl
end Go.Proofs.YtpleoapljeffiaaDoor.E
