/- A part of the proof. Conditions: none. -/
import Derived.Test.YtpleoapljeffiaaGreatDoorKP18
set_option linter.unusedVariables false
set_option linter.unusedSimpArgs false
set_option maxHeartbeats 8000000
set_option maxRecDepth 100000
namespace Go.Proofs.YtpleoapljeffiaaGreatDoor.E
open Go
open Classical
theorem doE_cell{a:Nat}{x:HX}{op n:Int}{ka kb kc:Nat}(h:Sound x.H)(ha:ka≤15)(hc:kc≤200)(ho:op=9∨op=10∨op=11∨op=16∨op=17):FnA Tryz.prog 84 [eV a,.agg #[.int .i64 op,.int .i64 ka,.int .i64 kb,.int .i64 kc,.int .i64 n]] (hp a x) (fun v As=>∃z:HX,v=an (doCell x.H ⟨op,ka,kb,kc,n⟩).code (doCell x.H ⟨op,ka,kb,kc,n⟩).num∧As=hp a z∧z.H=(doCell x.H ⟨op,ka,kb,kc,n⟩).heap):=by
 have hl:=x.len
 have hnc:x.hdr.nc=x.xs.length:=rfl
 have hnr:x.hdr.nr=x.regs.length:=rfl
 have h16:x.regs.length=16:=h.r1.regs
 obtain⟨w,gw⟩:∃w,x.regs[ka]?=some w:=⟨_,List.getElem?_eq_getElem (by omega)⟩
 have er:x.H.getR ka=w:=getR_at gw
 obtain⟨r1,r2⟩:=getR_ok h (r:=ka) (by omega) (by omega)
 rw[er]at r1 r2
 refine fnA_of (fun h=>fn84 (by simp) h) ?_
 unfold doCell
 dsimp only
 rw[er]
 by_cases hk:w.kind=2
 ·obtain⟨b0,b1,b2,b3⟩:=r2 hk
  obtain⟨j,hj⟩:=Int.eq_ofNat_of_zero_le b0
  have et:x.H.toI w=(j:Int):=by rw[toI_used hk b2,hj]
  have hwf:w.kind=2→0≤w.at_∧w.at_<x.H.cells.length:=fun _=>⟨b0,b1⟩
  rw[hj]at b1 b2
  obtain⟨y,gy,gc⟩:=HX.at (x:=x) (i:=j) (by omega)
  have gk:=HX.gc gy
  rw[if_neg (fun e=>e hk),hj,gk,Int.toNat_natCast]
  rcases ho with rfl|rfl|rfl|rfl|rfl
  ·repeat' (first
    |(refine k_L ?_;first|refine a_p rfl ?_|(refine k_l ?_;refine g_l rfl ?_)|(refine k_i ?_;refine g_i rfl rfl ?_)|(refine k_ls ?_;refine g_ls rfl ?_)|(refine k_st ?_;refine g_sw rfl rfl rfl rfl (Nat.le_of_ble_eq_true rfl) ?_)|(refine k_al ?_;refine a_al ?_)|(refine k_bx ?_;refine a_bx rfl rfl ?_)|(refine k_q ?_;refine a_q rfl (fun m hm=>qt_e (to_q (x:=x) (sep_has hm pmt) hwf) (by rw[et])) ?_)|(refine g_c rfl (growE_a (x:=x) (op:=9) (n:=n) (ka:=ka) (kb:=kb) (kc:=kc) (j0:=j) h ha hc (by rw[er];exact hk) (by rw[er];exact hj)) (fun v As' hq=>?_);obtain⟨z,rfl,rfl,hz⟩:=hq))
    |refine a_n ?_
    |(refine k_V ?_;first|refine v_seq ?_|refine v_reg ?_|refine v_dreg ?_|refine v_bs ?_|refine v_ret ?_|refine v_skip ?_|refine v_ct rfl ?_|refine v_cf rfl ?_)
    |refine s_r ?_
    |refine b_r ?_
    |refine sk_zero ?_
    |refine sk_succ ?_
    |refine wk_nil ?_
    |refine wk_cons ?_)
   all_goals exact fa_r (fun _ _=>rfl) (Pm.ent pmt) ⟨z,rfl,rfl,hz⟩
  ·repeat' (first
    |(refine k_L ?_;first|refine a_p rfl ?_|(refine k_l ?_;refine g_l rfl ?_)|(refine k_i ?_;refine g_i rfl rfl ?_)|(refine k_ls ?_;refine g_ls rfl ?_)|(refine k_st ?_;refine g_sw rfl rfl rfl rfl (Nat.le_of_ble_eq_true rfl) ?_)|(refine k_al ?_;refine a_al ?_)|(refine k_bx ?_;refine a_bx rfl rfl ?_)|(refine k_q ?_;refine a_q rfl (fun m hm=>qt_e (to_q (x:=x) (sep_has hm pmt) hwf) (by rw[et])) ?_)|(refine k_c ?_;refine a_cq rfl (fun m hm=>numE_q) ?_)|(refine g_c rfl (cutE_a (x:=x) (i:=j) (n:=kc) h (by omega) b2) (fun v As' hq=>?_);obtain⟨z,rfl,hz⟩:=hq))
    |refine a_n ?_
    |(refine k_V ?_;first|refine v_seq ?_|refine v_reg ?_|refine v_dreg ?_|refine v_bs ?_|refine v_ret ?_|refine v_skip ?_|refine v_ct rfl ?_|refine v_cf rfl ?_)
    |refine sk_zero ?_
    |refine sk_succ ?_
    |refine wk_nil ?_
    |refine wk_cons ?_)
   all_goals exact fa_r (fun _ _=>rfl) (Pm.ent pmt) ⟨z,rfl,rfl,hz⟩
  ·repeat' (first
    |(refine k_L ?_;first|refine a_p rfl ?_|(refine k_l ?_;refine g_l rfl ?_)|(refine k_i ?_;refine g_i rfl rfl ?_)|(refine k_ls ?_;refine g_ls rfl ?_)|(refine k_st ?_;first|refine g_st rfl rfl rfl rfl ?_|refine g_sw rfl rfl rfl rfl (Nat.le_of_ble_eq_true rfl) ?_)|(refine k_al ?_;refine a_al ?_)|(refine k_bx ?_;refine a_bx rfl rfl ?_)|(refine k_q ?_;refine a_q rfl (fun m hm=>qt_e (to_q (x:=x) (sep_has hm pmt) hwf) (by rw[et])) ?_)|(refine k_c ?_;refine a_cq rfl (fun m hm=>numE_q) ?_))
    |refine a_n ?_
    |(refine k_V ?_;first|refine v_seq ?_|refine v_reg ?_|refine v_dreg ?_|refine v_bs ?_|refine v_ret ?_|refine v_skip ?_|refine v_ct rfl ?_|refine v_cf rfl ?_)
    |refine sk_zero ?_
    |refine sk_succ ?_
    |refine wk_nil ?_
    |refine wk_cons ?_)
   refine fa_r (fun _ _=>rfl) (Pm.ent (fin ({x with xs:=x.xs.set j (y.s_weak kc)}:HX) (e1:=by simp[HX.hdr]))) ⟨_,rfl,rfl,?_⟩
   show _=x.H.putW j kc
   unfold Heap.putW
   rw[gk]
   unfold HX.H
   simp only[List.map_set];rfl
  ·repeat' (first
    |(refine k_L ?_;first|refine a_p rfl ?_|(refine k_l ?_;refine g_l rfl ?_)|(refine k_i ?_;refine g_i rfl rfl ?_)|(refine k_ls ?_;refine g_ls rfl ?_)|(refine k_st ?_;refine g_sw rfl rfl rfl rfl (Nat.le_of_ble_eq_true rfl) ?_)|(refine k_al ?_;refine a_al ?_)|(refine k_bx ?_;refine a_bx rfl rfl ?_)|(refine k_q ?_;refine a_q rfl (fun m hm=>qt_e (to_q (x:=x) (sep_has hm pmt) hwf) (by rw[et])) ?_)|(refine k_c ?_;refine a_cq rfl (fun m hm=>numE_q) ?_))
    |refine a_n ?_
    |(refine k_V ?_;first|refine v_seq ?_|refine v_reg ?_|refine v_dreg ?_|refine v_bs ?_|refine v_ret ?_|refine v_skip ?_|refine v_ct rfl ?_|refine v_cf rfl ?_)
    |refine s_r ?_
    |refine b_r ?_
    |refine sk_zero ?_
    |refine sk_succ ?_
    |refine wk_nil ?_
    |refine wk_cons ?_)
   all_goals exact fa_r (fun _ _=>rfl) (Pm.ent pmt) ⟨x,rfl,rfl,rfl⟩
  ·repeat' (first
    |(refine k_L ?_;first|refine a_p rfl ?_|(refine k_l ?_;refine g_l rfl ?_)|(refine k_i ?_;refine g_i rfl rfl ?_)|(refine k_ls ?_;refine g_ls rfl ?_)|(refine k_st ?_;refine g_sw rfl rfl rfl rfl (Nat.le_of_ble_eq_true rfl) ?_)|(refine k_al ?_;refine a_al ?_)|(refine k_bx ?_;refine a_bx rfl rfl ?_)|(refine k_q ?_;refine a_q rfl (fun m hm=>qt_e (to_q (x:=x) (sep_has hm pmt) hwf) (by rw[et])) ?_)|(refine k_c ?_;refine a_cq rfl (fun m hm=>numE_q) ?_))
    |refine a_n ?_
    |(refine k_V ?_;first|refine v_seq ?_|refine v_reg ?_|refine v_dreg ?_|refine v_bs ?_|refine v_ret ?_|refine v_skip ?_|refine v_ct rfl ?_|refine v_cf rfl ?_)
    |refine s_r ?_
    |refine b_r ?_
    |refine sk_zero ?_
    |refine sk_succ ?_
    |refine wk_nil ?_
    |refine wk_cons ?_)
   all_goals exact fa_r (fun _ _=>rfl) (Pm.ent pmt) ⟨x,rfl,rfl,rfl⟩
 ·have et:=toI_no (H:=x.H) hk
  rw[if_pos hk]
  rcases ho with rfl|rfl|rfl|rfl|rfl
  ·repeat' (first
    |(refine k_L ?_;first|refine a_p rfl ?_|(refine k_l ?_;refine g_l rfl ?_)|(refine k_i ?_;refine g_i rfl rfl ?_)|(refine k_ls ?_;refine g_ls rfl ?_)|(refine k_st ?_;refine g_sw rfl rfl rfl rfl (Nat.le_of_ble_eq_true rfl) ?_)|(refine k_al ?_;refine a_al ?_)|(refine k_bx ?_;refine a_bx rfl rfl ?_)|(refine k_q ?_;refine a_q rfl (fun m hm=>qt_e (to_q (x:=x) (sep_has hm pmt) (fun e=>absurd e hk)) (by rw[et])) ?_)|(refine k_c ?_;refine a_cq rfl (fun m hm=>codeE_q) ?_))
    |refine a_n ?_
    |(refine k_V ?_;first|refine v_seq ?_|refine v_reg ?_|refine v_dreg ?_|refine v_bs ?_|refine v_ret ?_|refine v_skip ?_|refine v_ct rfl ?_|refine v_cf rfl ?_)
    |refine s_r ?_
    |refine sk_zero ?_
    |refine sk_succ ?_
    |refine wk_nil ?_
    |refine wk_cons ?_)
   all_goals exact fa_r (fun _ _=>rfl) (Pm.ent pmt) ⟨x,rfl,rfl,rfl⟩
  ·repeat' (first
    |(refine k_L ?_;first|refine a_p rfl ?_|(refine k_l ?_;refine g_l rfl ?_)|(refine k_i ?_;refine g_i rfl rfl ?_)|(refine k_ls ?_;refine g_ls rfl ?_)|(refine k_st ?_;refine g_sw rfl rfl rfl rfl (Nat.le_of_ble_eq_true rfl) ?_)|(refine k_al ?_;refine a_al ?_)|(refine k_bx ?_;refine a_bx rfl rfl ?_)|(refine k_q ?_;refine a_q rfl (fun m hm=>qt_e (to_q (x:=x) (sep_has hm pmt) (fun e=>absurd e hk)) (by rw[et])) ?_)|(refine k_c ?_;refine a_cq rfl (fun m hm=>codeE_q) ?_))
    |refine a_n ?_
    |(refine k_V ?_;first|refine v_seq ?_|refine v_reg ?_|refine v_dreg ?_|refine v_bs ?_|refine v_ret ?_|refine v_skip ?_|refine v_ct rfl ?_|refine v_cf rfl ?_)
    |refine s_r ?_
    |refine sk_zero ?_
    |refine sk_succ ?_
    |refine wk_nil ?_
    |refine wk_cons ?_)
   all_goals exact fa_r (fun _ _=>rfl) (Pm.ent pmt) ⟨x,rfl,rfl,rfl⟩
  ·repeat' (first
    |(refine k_L ?_;first|refine a_p rfl ?_|(refine k_l ?_;refine g_l rfl ?_)|(refine k_i ?_;refine g_i rfl rfl ?_)|(refine k_ls ?_;refine g_ls rfl ?_)|(refine k_st ?_;refine g_sw rfl rfl rfl rfl (Nat.le_of_ble_eq_true rfl) ?_)|(refine k_al ?_;refine a_al ?_)|(refine k_bx ?_;refine a_bx rfl rfl ?_)|(refine k_q ?_;refine a_q rfl (fun m hm=>qt_e (to_q (x:=x) (sep_has hm pmt) (fun e=>absurd e hk)) (by rw[et])) ?_)|(refine k_c ?_;refine a_cq rfl (fun m hm=>codeE_q) ?_))
    |refine a_n ?_
    |(refine k_V ?_;first|refine v_seq ?_|refine v_reg ?_|refine v_dreg ?_|refine v_bs ?_|refine v_ret ?_|refine v_skip ?_|refine v_ct rfl ?_|refine v_cf rfl ?_)
    |refine s_r ?_
    |refine sk_zero ?_
    |refine sk_succ ?_
    |refine wk_nil ?_
    |refine wk_cons ?_)
   all_goals exact fa_r (fun _ _=>rfl) (Pm.ent pmt) ⟨x,rfl,rfl,rfl⟩
  ·repeat' (first
    |(refine k_L ?_;first|refine a_p rfl ?_|(refine k_l ?_;refine g_l rfl ?_)|(refine k_i ?_;refine g_i rfl rfl ?_)|(refine k_ls ?_;refine g_ls rfl ?_)|(refine k_st ?_;refine g_sw rfl rfl rfl rfl (Nat.le_of_ble_eq_true rfl) ?_)|(refine k_al ?_;refine a_al ?_)|(refine k_bx ?_;refine a_bx rfl rfl ?_)|(refine k_q ?_;refine a_q rfl (fun m hm=>qt_e (to_q (x:=x) (sep_has hm pmt) (fun e=>absurd e hk)) (by rw[et])) ?_)|(refine k_c ?_;refine a_cq rfl (fun m hm=>codeE_q) ?_))
    |refine a_n ?_
    |(refine k_V ?_;first|refine v_seq ?_|refine v_reg ?_|refine v_dreg ?_|refine v_bs ?_|refine v_ret ?_|refine v_skip ?_|refine v_ct rfl ?_|refine v_cf rfl ?_)
    |refine s_r ?_
    |refine sk_zero ?_
    |refine sk_succ ?_
    |refine wk_nil ?_
    |refine wk_cons ?_)
   all_goals exact fa_r (fun _ _=>rfl) (Pm.ent pmt) ⟨x,rfl,rfl,rfl⟩
  ·repeat' (first
    |(refine k_L ?_;first|refine a_p rfl ?_|(refine k_l ?_;refine g_l rfl ?_)|(refine k_i ?_;refine g_i rfl rfl ?_)|(refine k_ls ?_;refine g_ls rfl ?_)|(refine k_st ?_;refine g_sw rfl rfl rfl rfl (Nat.le_of_ble_eq_true rfl) ?_)|(refine k_al ?_;refine a_al ?_)|(refine k_bx ?_;refine a_bx rfl rfl ?_)|(refine k_q ?_;refine a_q rfl (fun m hm=>qt_e (to_q (x:=x) (sep_has hm pmt) (fun e=>absurd e hk)) (by rw[et])) ?_)|(refine k_c ?_;refine a_cq rfl (fun m hm=>codeE_q) ?_))
    |refine a_n ?_
    |(refine k_V ?_;first|refine v_seq ?_|refine v_reg ?_|refine v_dreg ?_|refine v_bs ?_|refine v_ret ?_|refine v_ct rfl ?_|refine v_cf rfl ?_)
    |refine s_r ?_
    |refine sk_zero ?_
    |refine sk_succ ?_
    |refine wk_nil ?_
    |refine wk_cons ?_)
   all_goals exact fa_r (fun _ _=>rfl) (Pm.ent pmt) ⟨x,rfl,rfl,rfl⟩
theorem doE_last{a:Nat}{x:HX}{op n:Int}{ka kb kc:Nat}(h:Sound x.H)(ha:ka≤15)(hc:kc≤1)(ho:op=12):FnA Tryz.prog 84 [eV a,.agg #[.int .i64 op,.int .i64 ka,.int .i64 kb,.int .i64 kc,.int .i64 n]] (hp a x) (fun v As=>∃z:HX,v=an (doCell x.H ⟨op,ka,kb,kc,n⟩).code (doCell x.H ⟨op,ka,kb,kc,n⟩).num∧As=hp a z∧z.H=(doCell x.H ⟨op,ka,kb,kc,n⟩).heap):=by
 subst ho
 have hl:=x.len
 have hnc:x.hdr.nc=x.xs.length:=rfl
 have hnr:x.hdr.nr=x.regs.length:=rfl
 have h16:x.regs.length=16:=h.r1.regs
 obtain⟨w,gw⟩:∃w,x.regs[ka]?=some w:=⟨_,List.getElem?_eq_getElem (by omega)⟩
 have er:x.H.getR ka=w:=getR_at gw
 obtain⟨r1,r2⟩:=getR_ok h (r:=ka) (by omega) (by omega)
 rw[er]at r1 r2
 refine fnA_of (fun h=>fn84 (by simp) h) ?_
 unfold doCell
 dsimp only
 rw[er]
 by_cases hk:w.kind=2
 ·obtain⟨b0,b1,b2,b3⟩:=r2 hk
  obtain⟨j,hj⟩:=Int.eq_ofNat_of_zero_le b0
  have et:x.H.toI w=(j:Int):=by rw[toI_used hk b2,hj]
  have hwf:w.kind=2→0≤w.at_∧w.at_<x.H.cells.length:=fun _=>⟨b0,b1⟩
  have hw0:w.at_.toNat=j:=by omega
  rw[hj]at b1 b2
  obtain⟨y,gy,gc⟩:=HX.at (x:=x) (i:=j) (by omega)
  have gk:=HX.gc gy
  rw[if_neg (fun e=>e hk),hj,Int.toNat_natCast]
  have zH:HX.H {x with xs:=x.xs.set j (y.s_last kc)}=x.H.putL j kc:=by
   unfold Heap.putL
   rw[gk]
   unfold HX.H
   simp only[List.map_set];rfl
  have esw:x.H.shadeW w=x.H.shadeH j:=by unfold Heap.shadeW;rw[if_pos hk,hw0]
  by_cases hc1:(kc:Int)=1
  ·have hkc:kc=1:=by omega
   subst hkc
   rw[if_neg (by omega),if_neg (by omega),if_neg (by omega),if_pos rfl,if_pos hc1]
   repeat' (first
    |(refine k_L ?_;first|refine a_p rfl ?_|(refine k_l ?_;refine g_l rfl ?_)|(refine k_i ?_;refine g_i rfl rfl ?_)|(refine k_ls ?_;refine g_ls rfl ?_)|(refine k_st ?_;refine g_st rfl rfl rfl rfl ?_)|(refine k_al ?_;refine a_al ?_)|(refine k_bx ?_;refine a_bx rfl rfl ?_)|(refine k_q ?_;refine a_q rfl (fun m hm=>qt_e (to_q (x:=x) (sep_has hm pmt) hwf) (by rw[et])) ?_))
    |refine a_n ?_
    |(refine k_V ?_;first|refine v_seq ?_|refine v_reg ?_|refine v_dreg ?_|refine v_bs ?_|refine v_skip ?_|refine v_ct rfl ?_|refine v_cf rfl ?_))
   refine LA.ent (Pm.ent (fin ({x with xs:=x.xs.set j (y.s_last (1:Nat))}:HX) (e1:=by simp[HX.hdr]))) ?_
   refine g_c rfl (shadeH_a (x:={x with xs:=x.xs.set j (y.s_last (1:Nat))}) (i:=j) (by show j<(x.xs.set j _).length;rw[List.length_set]<;>omega) (by have:=h.r1.gray;have:=h.r1.cells;have:=h.r1.room;show x.gray.length≤_;have e:x.H.gray.length=x.gray.length:=rfl;omega)) (fun v' As' hq=>?_)
   obtain⟨u,rfl,hu,_⟩:=hq
   repeat' (first
    |(refine k_L ?_;first|(refine k_st ?_;refine g_sw rfl rfl rfl rfl (Nat.le_of_ble_eq_true rfl) ?_)|(refine k_c ?_;refine a_cq rfl (fun m hm=>numE_q) ?_))
    |refine a_n ?_
    |(refine k_V ?_;first|refine v_seq ?_|refine v_reg ?_|refine v_ret ?_)
    |refine sk_zero ?_
    |refine sk_succ ?_
    |refine wk_nil ?_
    |refine wk_cons ?_)
   all_goals exact fa_r (fun _ _=>rfl) (Pm.ent pmt) ⟨u,rfl,rfl,by rw[hu,zH,shadeH_putL (by omega) (by omega),esw]<;>rfl⟩
  ·rw[if_neg (by omega),if_neg (by omega),if_neg (by omega),if_pos rfl,if_neg hc1]
   repeat' (first
    |(refine k_L ?_;first|refine a_p rfl ?_|(refine k_l ?_;refine g_l rfl ?_)|(refine k_i ?_;refine g_i rfl rfl ?_)|(refine k_ls ?_;refine g_ls rfl ?_)|(refine k_st ?_;first|refine g_st rfl rfl rfl rfl ?_|refine g_sw rfl rfl rfl rfl (Nat.le_of_ble_eq_true rfl) ?_)|(refine k_al ?_;refine a_al ?_)|(refine k_bx ?_;refine a_bx rfl rfl ?_)|(refine k_q ?_;refine a_q rfl (fun m hm=>qt_e (to_q (x:=x) (sep_has hm pmt) hwf) (by rw[et])) ?_)|(refine k_c ?_;refine a_cq rfl (fun m hm=>numE_q) ?_))
    |refine a_n ?_
    |(refine k_V ?_;first|refine v_seq ?_|refine v_reg ?_|refine v_dreg ?_|refine v_bs ?_|refine v_ret ?_|refine v_skip ?_|refine v_ct rfl ?_|refine v_cf rfl ?_|(refine v_cd rfl (fun hb=>?_) (fun hb=>?_)<;>try(exfalso;omega)))
    |refine sk_zero ?_
    |refine sk_succ ?_
    |refine wk_nil ?_
    |refine wk_cons ?_)
   all_goals exact fa_r (fun _ _=>rfl) (Pm.ent (fin ({x with xs:=x.xs.set j (y.s_last kc)}:HX) (e1:=by simp[HX.hdr]))) ⟨_,rfl,rfl,zH⟩
 ·have et:=toI_no (H:=x.H) hk
  rw[if_pos hk]
  repeat' (first
   |(refine k_L ?_;first|refine a_p rfl ?_|(refine k_l ?_;refine g_l rfl ?_)|(refine k_i ?_;refine g_i rfl rfl ?_)|(refine k_ls ?_;refine g_ls rfl ?_)|(refine k_st ?_;refine g_sw rfl rfl rfl rfl (Nat.le_of_ble_eq_true rfl) ?_)|(refine k_al ?_;refine a_al ?_)|(refine k_bx ?_;refine a_bx rfl rfl ?_)|(refine k_q ?_;refine a_q rfl (fun m hm=>qt_e (to_q (x:=x) (sep_has hm pmt) (fun e=>absurd e hk)) (by rw[et])) ?_)|(refine k_c ?_;refine a_cq rfl (fun m hm=>codeE_q) ?_))
   |refine a_n ?_
   |(refine k_V ?_;first|refine v_seq ?_|refine v_reg ?_|refine v_dreg ?_|refine v_bs ?_|refine v_ret ?_|refine v_skip ?_|refine v_ct rfl ?_|refine v_cf rfl ?_)
   |refine s_r ?_
   |refine sk_zero ?_
   |refine sk_succ ?_
   |refine wk_nil ?_
   |refine wk_cons ?_)
  all_goals exact fa_r (fun _ _=>rfl) (Pm.ent pmt) ⟨x,rfl,rfl,rfl⟩
section
variable {a:Nat} {x:HX} {n:Int} {ka kb kc:Nat}
theorem smp_2(h:Sound x.H)(hP:ActP ⟨2,ka,kb,kc,n⟩):FnA Tryz.prog 125 [eV a,.agg #[.int .i64 2,.int .i64 ka,.int .i64 kb,.int .i64 kc,.int .i64 n]] (hp a x) (fun v As=>∃z:HX,v=an 0 0∧As=hp a z∧z.H=x.H.setR ka ⟨1,n,0⟩):=by
 have hQ:=hP
 simp[ActP,aMost,bMost,cMost]at hQ
 have hnr:x.hdr.nr=x.regs.length:=rfl
 have h16:x.regs.length=16:=h.r1.regs
 obtain⟨w,gw⟩:∃w,x.regs[ka]?=some w:=⟨_,List.getElem?_eq_getElem (by omega)⟩
 refine fnA_of (fun h=>fn125 (by simp) h) ?_
 repeat' (first
  |(refine k_L ?_;first|(refine k_l ?_;refine g_l rfl ?_)|(refine k_i ?_;refine g_i rfl rfl ?_)|(refine k_st ?_;first|refine g_st rfl rfl rfl rfl ?_|refine g_sw rfl rfl rfl rfl (Nat.le_of_ble_eq_true rfl) ?_)|(refine k_al ?_;refine a_al ?_)|(refine k_bx ?_;refine a_bx rfl rfl ?_)|(refine k_c ?_;refine a_cq rfl (fun m hm=>numE_q) ?_)|(refine b_w ⟨1,n,0⟩ rfl ?_)|(refine b_p rfl ?_))
  |refine a_n ?_
  |(refine k_V ?_;first|refine v_seq ?_|refine v_reg ?_|refine v_dreg ?_|refine v_bs ?_|refine v_ret ?_|refine v_ct rfl ?_|refine v_cf rfl ?_)
  |refine sk_zero ?_
  |refine sk_succ ?_
  |refine wk_nil ?_
  |refine wk_cons ?_)
 all_goals exact fa_r (fun _ _=>rfl) (Pm.ent (fin ({x with regs:=x.regs.set ka ⟨1,n,0⟩}:HX) (h1:=by simp[HX.hdr]))) ⟨_,rfl,rfl,rfl⟩
theorem smp_3(h:Sound x.H)(hP:ActP ⟨3,ka,kb,kc,n⟩):FnA Tryz.prog 125 [eV a,.agg #[.int .i64 3,.int .i64 ka,.int .i64 kb,.int .i64 kc,.int .i64 n]] (hp a x) (fun v As=>∃z:HX,v=an 0 0∧As=hp a z∧z.H=x.H.setR ka ⟨0,0,0⟩):=by
 have hQ:=hP
 simp[ActP,aMost,bMost,cMost]at hQ
 have hnr:x.hdr.nr=x.regs.length:=rfl
 have h16:x.regs.length=16:=h.r1.regs
 obtain⟨w,gw⟩:∃w,x.regs[ka]?=some w:=⟨_,List.getElem?_eq_getElem (by omega)⟩
 refine fnA_of (fun h=>fn125 (by simp) h) ?_
 repeat' (first
  |(refine k_L ?_;first|(refine k_l ?_;refine g_l rfl ?_)|(refine k_i ?_;refine g_i rfl rfl ?_)|(refine k_st ?_;first|refine g_st rfl rfl rfl rfl ?_|refine g_sw rfl rfl rfl rfl (Nat.le_of_ble_eq_true rfl) ?_)|(refine k_al ?_;refine a_al ?_)|(refine k_bx ?_;refine a_bx rfl rfl ?_)|(refine k_c ?_;refine a_cq rfl (fun m hm=>numE_q) ?_)|(refine b_w ⟨0,0,0⟩ rfl ?_)|(refine b_p rfl ?_))
  |refine a_n ?_
  |(refine k_V ?_;first|refine v_seq ?_|refine v_reg ?_|refine v_dreg ?_|refine v_bs ?_|refine v_ret ?_|refine v_ct rfl ?_|refine v_cf rfl ?_)
  |refine sk_zero ?_
  |refine sk_succ ?_
  |refine wk_nil ?_
  |refine wk_cons ?_)
 all_goals exact fa_r (fun _ _=>rfl) (Pm.ent (fin ({x with regs:=x.regs.set ka ⟨0,0,0⟩}:HX) (h1:=by simp[HX.hdr]))) ⟨_,rfl,rfl,rfl⟩
theorem smp_4(h:Sound x.H)(hP:ActP ⟨4,ka,kb,kc,n⟩):FnA Tryz.prog 125 [eV a,.agg #[.int .i64 4,.int .i64 ka,.int .i64 kb,.int .i64 kc,.int .i64 n]] (hp a x) (fun v As=>∃z:HX,v=an 0 0∧As=hp a z∧z.H=x.H.setR ka (x.H.getR kb)):=by
 have hQ:=hP
 simp[ActP,aMost,bMost,cMost]at hQ
 have hnr:x.hdr.nr=x.regs.length:=rfl
 have h16:x.regs.length=16:=h.r1.regs
 obtain⟨w,gw⟩:∃w,x.regs[ka]?=some w:=⟨_,List.getElem?_eq_getElem (by omega)⟩
 obtain⟨v,gv⟩:∃w,x.regs[kb]?=some w:=⟨_,List.getElem?_eq_getElem (by omega)⟩
 rw[getR_at gv]
 refine fnA_of (fun h=>fn125 (by simp) h) ?_
 repeat' (first
  |(refine k_L ?_;first|refine a_p rfl ?_|(refine k_l ?_;refine g_l rfl ?_)|(refine k_i ?_;refine g_i rfl rfl ?_)|(refine k_ls ?_;refine g_ls rfl ?_)|(refine k_st ?_;first|refine g_st rfl rfl rfl rfl ?_|refine g_sw rfl rfl rfl rfl (Nat.le_of_ble_eq_true rfl) ?_)|(refine k_al ?_;refine a_al ?_)|(refine k_bx ?_;refine a_bx rfl rfl ?_)|(refine k_c ?_;refine a_cq rfl (fun m hm=>numE_q) ?_))
  |refine a_n ?_
  |(refine k_V ?_;first|refine v_seq ?_|refine v_reg ?_|refine v_dreg ?_|refine v_bs ?_|refine v_ret ?_|refine v_ct rfl ?_|refine v_cf rfl ?_)
  |refine sk_zero ?_
  |refine sk_succ ?_
  |refine wk_nil ?_
  |refine wk_cons ?_)
 all_goals exact fa_r (fun _ _=>rfl) (Pm.ent (fin ({x with regs:=x.regs.set ka v}:HX) (h1:=by simp[HX.hdr]))) ⟨_,rfl,rfl,rfl⟩
theorem smp_13(h:Sound x.H)(hP:ActP ⟨13,ka,kb,kc,n⟩):FnA Tryz.prog 125 [eV a,.agg #[.int .i64 13,.int .i64 ka,.int .i64 kb,.int .i64 kc,.int .i64 n]] (hp a x) (fun v As=>v=an 0 (if x.H.getR ka=x.H.getR kb then 1 else 0)∧As=hp a x):=by
 have hQ:=hP
 simp[ActP,aMost,bMost,cMost]at hQ
 have hnr:x.hdr.nr=x.regs.length:=rfl
 have h16:x.regs.length=16:=h.r1.regs
 obtain⟨w,gw⟩:∃w,x.regs[ka]?=some w:=⟨_,List.getElem?_eq_getElem (by omega)⟩
 obtain⟨v,gv⟩:∃w,x.regs[kb]?=some w:=⟨_,List.getElem?_eq_getElem (by omega)⟩
 rw[getR_at gv,getR_at gw]
 obtain⟨wk,wn,wat⟩:=w
 obtain⟨vk,vn,vat⟩:=v
 refine fnA_of (fun h=>fn125 (by simp) h) ?_
 repeat' (first
  |(refine k_L ?_;first|refine a_p rfl ?_|(refine k_l ?_;refine g_l rfl ?_)|(refine k_i ?_;refine g_i rfl rfl ?_)|(refine k_ls ?_;refine g_ls rfl ?_)|(refine k_st ?_;refine g_sw rfl rfl rfl rfl (Nat.le_of_ble_eq_true rfl) ?_)|(refine k_al ?_;refine a_al ?_)|(refine k_bx ?_;refine a_bx rfl rfl ?_)|(refine k_c ?_;refine a_cq rfl (fun m hm=>numE_q) ?_))
  |refine a_n ?_
  |(refine k_V ?_;first|refine v_seq ?_|refine v_reg ?_|refine v_dreg ?_|refine v_bs ?_|refine v_ret ?_|refine v_skip ?_|refine v_ct rfl ?_|refine v_cf rfl ?_|(refine v_cond _ rfl (fun hb=>?_) (fun hb=>?_)))
  |refine s_r ?_
  |refine b_r ?_
  |refine sk_zero ?_
  |refine sk_succ ?_
  |refine wk_nil ?_
  |refine wk_cons ?_)
 ·have e:wk=vk∧wn=vn∧wat=vat:=by simpa using hb
  refine fa_r (fun _ _=>rfl) (Pm.ent pmt) ⟨?_,rfl⟩
  rw[if_pos (by rw[e.1,e.2.1,e.2.2])];rfl
 ·have e:¬(wk=vk∧wn=vn∧wat=vat):=fun e=>by
   obtain⟨rfl,rfl,rfl⟩:=e
   simp at hb
  refine fa_r (fun _ _=>rfl) (Pm.ent pmt) ⟨?_,rfl⟩
  rw[if_neg (fun h=>e (by rw[Word.mk.injEq]at h;exact h))];rfl
theorem smp_14(h:Sound x.H)(hP:ActP ⟨14,ka,kb,kc,n⟩):FnA Tryz.prog 125 [eV a,.agg #[.int .i64 14,.int .i64 ka,.int .i64 kb,.int .i64 kc,.int .i64 n]] (hp a x) (fun v As=>v=an 0 (x.H.getR ka).kind∧As=hp a x):=by
 have hQ:=hP
 simp[ActP,aMost,bMost,cMost]at hQ
 have hnr:x.hdr.nr=x.regs.length:=rfl
 have h16:x.regs.length=16:=h.r1.regs
 obtain⟨w,gw⟩:∃w,x.regs[ka]?=some w:=⟨_,List.getElem?_eq_getElem (by omega)⟩
 rw[getR_at gw]
 refine fnA_of (fun h=>fn125 (by simp) h) ?_
 repeat' (first
  |(refine k_L ?_;first|refine a_p rfl ?_|(refine k_l ?_;first|refine a_l rfl (by exact rd_t (rd_h (rd_sl (fun _=>rfl) gw rfl))) ?_|refine g_l rfl ?_)|(refine k_i ?_;refine g_i rfl rfl ?_)|(refine k_st ?_;refine g_sw rfl rfl rfl rfl (Nat.le_of_ble_eq_true rfl) ?_)|(refine k_al ?_;refine a_al ?_)|(refine k_bx ?_;refine a_bx rfl rfl ?_)|(refine k_q ?_;refine a_q rfl (fun m hm=>numE_q) ?_))
  |refine a_n ?_
  |(refine k_V ?_;first|refine v_seq ?_|refine v_reg ?_|refine v_dreg ?_|refine v_bs ?_|refine v_ret ?_|refine v_ct rfl ?_|refine v_cf rfl ?_)
  |refine s_r ?_
  |refine b_r ?_
  |refine sk_zero ?_
  |refine sk_succ ?_
  |refine wk_nil ?_
  |refine wk_cons ?_)
 all_goals exact fa_r (fun _ _=>rfl) (Pm.ent pmt) ⟨rfl,rfl⟩
theorem smp_15(h:Sound x.H)(hP:ActP ⟨15,ka,kb,kc,n⟩):FnA Tryz.prog 125 [eV a,.agg #[.int .i64 15,.int .i64 ka,.int .i64 kb,.int .i64 kc,.int .i64 n]] (hp a x) (fun v As=>v=(if(x.H.getR ka).kind=1 then an 0 (x.H.getR ka).num else an 2 0)∧As=hp a x):=by
 have hQ:=hP
 simp[ActP,aMost,bMost,cMost]at hQ
 have hnr:x.hdr.nr=x.regs.length:=rfl
 have h16:x.regs.length=16:=h.r1.regs
 obtain⟨w,gw⟩:∃w,x.regs[ka]?=some w:=⟨_,List.getElem?_eq_getElem (by omega)⟩
 rw[getR_at gw]
 refine fnA_of (fun h=>fn125 (by simp) h) ?_
 by_cases hk:w.kind=1
 ·rw[if_pos hk]
  repeat' (first
   |(refine k_L ?_;first|refine a_p rfl ?_|(refine k_l ?_;first|refine a_l rfl (by exact rd_t (rd_h (rd_sl (fun _=>rfl) gw rfl))) ?_|refine g_l rfl ?_)|(refine k_i ?_;refine g_i rfl rfl ?_)|(refine k_st ?_;refine g_sw rfl rfl rfl rfl (Nat.le_of_ble_eq_true rfl) ?_)|(refine k_al ?_;refine a_al ?_)|(refine k_bx ?_;refine a_bx rfl rfl ?_))
   |refine a_n ?_
   |(refine k_V ?_;first|refine v_seq ?_|refine v_reg ?_|refine v_dreg ?_|refine v_bs ?_|refine v_ret ?_|refine v_skip ?_|refine v_ct rfl ?_|refine v_cf rfl ?_|(refine v_cn rfl (fun hb=>?_) (fun hb=>?_)<;>try(exfalso;omega)))
   |refine s_r ?_
   |refine b_r ?_
   |refine sk_zero ?_
   |refine sk_succ ?_
   |refine wk_nil ?_
   |refine wk_cons ?_)
  all_goals exact fa_r (fun _ _=>rfl) (Pm.ent pmt) ⟨rfl,rfl⟩
 ·rw[if_neg hk]
  repeat' (first
   |(refine k_L ?_;first|refine a_p rfl ?_|(refine k_l ?_;first|refine a_l rfl (by exact rd_t (rd_h (rd_sl (fun _=>rfl) gw rfl))) ?_|refine g_l rfl ?_)|(refine k_i ?_;refine g_i rfl rfl ?_)|(refine k_st ?_;refine g_sw rfl rfl rfl rfl (Nat.le_of_ble_eq_true rfl) ?_)|(refine k_al ?_;refine a_al ?_)|(refine k_bx ?_;refine a_bx rfl rfl ?_)|(refine k_c ?_;refine a_cq rfl (fun m hm=>codeE_q) ?_))
   |refine a_n ?_
   |(refine k_V ?_;first|refine v_seq ?_|refine v_reg ?_|refine v_dreg ?_|refine v_bs ?_|refine v_ret ?_|refine v_ct rfl ?_|refine v_cf rfl ?_|(refine v_cn rfl (fun hb=>?_) (fun hb=>?_)<;>try(exfalso;omega)))
   |refine s_r ?_
   |refine b_r ?_
   |refine sk_zero ?_
   |refine sk_succ ?_
   |refine wk_nil ?_
   |refine wk_cons ?_)
  all_goals exact fa_r (fun _ _=>rfl) (Pm.ent pmt) ⟨rfl,rfl⟩
end
theorem v_via{E:Env}{a:C}{K:St→List Asr→Prop}{Q:X→St→List Asr→Prop}{S:St}{As:List Asr}(J:St→List Asr→Prop)(h:VA E a (seqA J Q) S As)(h2:∀S As,J S As→K S As):VA E a (seqA K Q) S As:=
 v_mono h fun x S As hq=>by cases x<;>first|exact h2 _ _ hq|exact hq
theorem frG_born{H:Heap}{b:Int}:∀k:Nat,frG {H with born:=b} k=frG H k
 |0=>rfl
 |k+1=>by
  simp only[frG]
  rw[frG_born k]
  rfl
def HX.bn(x:HX):HX:={x with born:=x.born+1}
theorem l5make_a{a:Nat}{x:HX}{op n:Int}{ka kb kc:Nat}(h:Sound x.H)(ha:ka≤15)(hb:kb≤255)(hc:kc≤200):FnA Tryz.prog 55 [ptr a,.agg #[.int .i64 op,.int .i64 ka,.int .i64 kb,.int .i64 kc,.int .i64 n]] (hp a x) (fun v As=>∃z:HX,v=an (doNew x.H ⟨op,ka,kb,kc,n⟩).code (doNew x.H ⟨op,ka,kb,kc,n⟩).num∧As=hp a z∧z.H=(doNew x.H ⟨op,ka,kb,kc,n⟩).heap):=by
 have hl:=x.len
 have e1:x.hdr.born=x.H.born:=rfl
 refine fnA_of (fun h=>fn55 (by simp) h) ?_
 obtain⟨f1,f2,f3,f4,f5,f6,f7⟩:=fits_ok h (1+kc)
 unfold doNew
 dsimp only
 by_cases c0:x.H.born=1000000000
 ·rw[if_pos c0]
  repeat' (first
   |(refine k_L ?_;first|(refine k_ad ?_;refine g_ad rfl rfl ?_)|refine a_p rfl ?_|(refine k_g ?_;first|refine a_gn rfl rfl ?_|(refine a_gd rfl (fun hb=>?_) (fun hb=>?_)<;>try(exfalso;omega)))|(refine k_l ?_;refine g_l rfl ?_)|(refine k_st ?_;refine g_sw rfl rfl rfl rfl (Nat.le_of_ble_eq_true rfl) ?_)|(refine k_al ?_;refine a_al ?_)|(refine k_bx ?_;refine a_bx rfl rfl ?_)|(refine k_c ?_;refine a_cq rfl (fun m hm=>l5bad_q) ?_))
   |refine a_n ?_
   |(refine k_V ?_;first|refine v_seq ?_|refine v_reg ?_|refine v_ret ?_|refine v_ct rfl ?_)
   |refine s_r ?_
   |refine sk_zero ?_
   |refine sk_succ ?_
   |refine wk_nil ?_
   |refine wk_cons ?_)
  all_goals exact fa_r (fun _ _=>rfl) (Pm.ent pmt) ⟨x,rfl,rfl,rfl⟩
 ·rw[if_neg c0]
  generalize hF:x.H.fitsH (1+kc)=F at*
  have hbn:=f1.r1.born
  by_cases c2:F.used+(1+kc)≤F.room
  ·rw[if_pos c2]
   repeat' (first
    |(refine k_L ?_;first|(refine k_ad ?_;refine g_ad rfl rfl ?_)|refine a_p rfl ?_|(refine k_g ?_;first|refine a_gy rfl rfl ?_|(refine a_gd rfl (fun hb=>?_) (fun hb=>?_)<;>try(exfalso;omega)))|(refine k_l ?_;refine g_l rfl ?_)|(refine k_st ?_;first|refine g_st rfl rfl rfl rfl ?_|refine g_sw rfl rfl rfl rfl (Nat.le_of_ble_eq_true rfl) ?_)|(refine k_al ?_;refine a_al ?_)|(refine k_bx ?_;refine a_bx rfl rfl ?_)|(refine k_c ?_;refine a_cq rfl (fun m hm=>l5bad_q) ?_)|(refine g_c rfl (l5room_a (x:=x) (u:=1+(kc:Int)) h (by omega)) (fun v As' hq=>?_);obtain⟨z,rfl,rfl,hz⟩:=hq;rw[hF]at hz;have zb:z.hdr.born=F.born:=congrArg Heap.born hz))
    |refine a_n ?_
    |(refine k_V ?_;first|refine v_seq ?_|refine v_reg ?_|refine v_ret ?_|refine v_skip ?_|(refine v_cnd rfl (fun hb=>?_) (fun hb=>?_)<;>try(exfalso;omega)))
    |refine s_r ?_
    |refine sk_zero ?_
    |refine sk_succ ?_
    |refine wk_nil ?_
    |refine wk_cons ?_)
   ·exfalso;rw[hF]at hb;omega
   subst hz
   have zl:=z.len
   have z16:z.regs.length=16:=f1.r1.regs
   have g3:=f1.r1.cells
   have g2:=f1.r1.room
   have ub:=f1.r3
   have un:=unitsN_nn z.H.cells
   unfold R3 at ub
   refine VA.ent (Pm.ent (fin z.bn)) ?_
   refine v_via (fun S As=>∃g:D,leA [(0,.v (ptr a)),(3,.box [.int .i64 op,.int .i64 ka,.int .i64 kb,.int .i64 kc,.int .i64 n]),(4,.box [.int .i64 0,.int .i64 0]),(5,.v (.int .i64 (1+kc))),(6,.box [.int .i64 1,.int .i64 kb,.int .i64 0,.int .i64 0,.int .i64 (z.born+1),.int .i64 0,.int .i64 0,.slice g.a (List.replicate kc Pair.no).length g.cap])] S∧Ent As (slA 6 pv g (List.replicate kc Pair.no)::hp a z.bn)) ?_ ?_
   ·refine v_hreg (Gs:=[slA 3 wv z.bn.rd z.bn.regs,clA z.bn.cd z.bn.xs,slA 1 iv z.bn.gd z.bn.gray]) [hdA a z.bn.hdr] pmt ?_
    repeat' (first
     |(refine k_L ?_;first|refine a_p rfl ?_|(refine k_l ?_;refine g_l rfl ?_)|(refine k_st ?_;refine g_sw rfl rfl rfl rfl (Nat.le_of_ble_eq_true rfl) ?_)|(refine k_al ?_;refine a_al ?_)|(refine a_mk (f:=pv) (n:=(kc:Int)) (k:=(kc:Int)) Pair.no pv_len rfl rfl rfl (by omega) (by omega) (fun g hg=>?_)))
     |refine a_n ?_
     |refine s_n ?_
     |refine sk_zero ?_
     |refine sk_succ ?_
     |refine wk_nil ?_
     |refine wk_cons ?_
     |refine t_a ?_ t_n
     |refine t_f ?_ t_n
     |refine t_a ?_ ?_
     |refine t_d ?_
     |refine kl_1 rfl ?_
     |refine kl_0 ?_)
    all_goals exact⟨g,⟨rfl,rfl,rfl,rfl,(by rw[List.length_replicate];rfl),trivial⟩,Pm.ent pmt⟩
   rintro S As ⟨g,hS,hE⟩
   refine VA.ent hE (v_weak _ hS ?_)
   clear hS hE S As
   have hfr:frG z.bn.H z.bn.xs.length=frG z.H z.H.cells.length:=by rw[zl];exact frG_born (H:=z.H) (b:=z.born+1) _
   obtain⟨p0,p1,p2,p3⟩:=frG_ok z.H z.H.cells.length
   obtain⟨j,hj⟩:=Int.eq_ofNat_of_zero_le p0
   have ef:frG z.bn.H z.bn.xs.length=j:=hfr.trans hj
   have xph:z.bn.hdr.phase=z.H.phase:=rfl
   have xha:z.bn.hdr.hand=z.H.hand:=rfl
   have xnc:z.bn.hdr.nc=z.xs.length:=rfl
   have xnr:z.bn.hdr.nr=z.regs.length:=rfl
   have xus:z.bn.hdr.used=z.H.used:=rfl
   have xxs:z.bn.xs.length=z.xs.length:=rfl
   have hmk:Marking z.bn.H↔Marking z.H:=Iff.rfl
   refine v_seq (v_reg ?_)
   repeat' (first
    |(refine k_L ?_;first|refine a_p rfl ?_|(refine k_c ?_;refine a_cq rfl (fun m hm=>qt_e (l3free_q (x:=z.bn) (sep_has hm pmt)) (by rw[ef])) ?_))
    |refine a_n ?_
    |refine s_n ?_)
   refine v_seq (v_via (fun S As=>leA [(0,.v (ptr a)),(3,.box [.int .i64 op,.int .i64 ka,.int .i64 kb,.int .i64 kc,.int .i64 n]),(4,.box [.int .i64 0,.int .i64 0]),(5,.v (.int .i64 (1+kc))),(6,.box [.int .i64 1,.int .i64 kb,.int .i64 0,.int .i64 0,.int .i64 (z.born+1),.int .i64 (newCol z.H j),.int .i64 0,.slice g.a (List.replicate kc Pair.no).length g.cap]),(7,.v (.int .i64 j))] S∧Ent As (slA 6 pv g (List.replicate kc Pair.no)::hp a z.bn)) ?_ ?_)
   ·repeat' (first
     |(refine k_L ?_;first|refine a_p rfl ?_|(refine k_g ?_;first|refine a_gy rfl rfl ?_|refine a_gn rfl rfl ?_|refine a_gu rfl ?_|(refine a_gd rfl (fun hb=>?_) (fun hb=>?_)<;>try(exfalso;omega)))|(refine k_l ?_;refine g_l rfl ?_)|(refine k_st ?_;refine g_sw rfl rfl rfl rfl (Nat.le_of_ble_eq_true rfl) ?_)|(refine k_c ?_;refine a_cq rfl (fun m hm=>l3marking_q (x:=z.bn) (sep_has hm pmt)) ?_))
     |refine a_n ?_
     |(refine k_V ?_;first|refine v_seq ?_|refine v_reg ?_|refine v_skip ?_|refine v_ct rfl ?_|refine v_cf rfl ?_|(refine v_cd rfl (fun hb=>?_) (fun hb=>?_)<;>try(exfalso;omega)))
     |refine s_n ?_
     |refine sk_zero ?_
     |refine sk_succ ?_
     |refine wk_nil ?_
     |refine wk_cons ?_)
    all_goals refine⟨⟨rfl,rfl,rfl,rfl,?_,rfl,trivial⟩,Pm.ent pmt⟩
    all_goals first
     |(rw[show newCol z.H j=2 by unfold newCol;rw[if_pos];unfold Marking at*;omega];rfl)
     |(rw[show newCol z.H j=0 by unfold newCol;rw[if_neg];unfold Marking at*;omega];rfl)
   rintro S As ⟨hS,hE⟩
   refine VA.ent hE (v_weak _ hS ?_)
   clear hS hE S As
   generalize hy:(⟨Cell.fresh kb (z.born+1) (newCol z.H j) kc,g.a,g.cap⟩:CS)=yn
   obtain⟨w,gw⟩:∃w,z.bn.regs[ka]?=some w:=⟨_,List.getElem?_eq_getElem (by show ka<z.regs.length;omega)⟩
   have hsl:slA 6 pv g (List.replicate kc Pair.no)=slA 6 pv yn.d yn.c.pairs:=by rw[←hy];rfl
   have hcol:0≤newCol z.H j:=by unfold newCol;split<;>omega
   by_cases hje:j=z.xs.length
   ·have hH:HX.H {z.bn with xs:=z.xs++[yn],used:=z.used+(1+kc),regs:=z.regs.set ka ⟨2,0,j⟩}=z.H.newH (ka:Int).toNat kb (kc:Int).toNat:=by
     unfold Heap.newH
     rw[hj,Int.toNat_natCast,Int.toNat_natCast,Int.toNat_natCast]
     unfold addC
     rw[if_pos (by rw[zl];exact hje),←hy]
     unfold HX.H HX.bn
     simp only[List.map_append,List.map_cons,List.map_nil,Heap.mk.injEq,true_and,and_true]
     omega
    repeat' (first
     |(refine k_L ?_;first|refine a_p rfl ?_|(refine k_l ?_;refine g_l rfl ?_)|(refine k_bl ?_;refine a_bl rfl ?_))
     |refine a_n ?_
     |(refine k_V ?_;first|refine v_seq ?_|refine v_reg ?_|refine v_dreg ?_|(refine v_cd rfl (fun hb=>?_) (fun hb=>?_)<;>try(exfalso;omega))))
    refine LA.ent (Bs:=[slA 8 csv z.bn.cd z.bn.xs,prA z.bn.xs,slA 6 pv g (List.replicate kc Pair.no),hdA a z.bn.hdr,slA 3 wv z.bn.rd z.bn.regs,slA 1 iv z.bn.gd z.bn.gray]) ?_ ?_
    ·exact(Pm.ent (As1:=[clA z.bn.cd z.bn.xs,slA 6 pv g (List.replicate kc Pair.no),hdA a z.bn.hdr,slA 3 wv z.bn.rd z.bn.regs,slA 1 iv z.bn.gd z.bn.gray]) pmt).trans (cl_open.trans (Pm.ent pmt))
    refine g_ap yn csv_len rfl rfl (by rw[←hy];rfl) (by omega) (hb:=by omega) (fun cd'=>?_)
    repeat' (first
     |(refine k_L ?_;first|(refine k_ad ?_;refine g_ad rfl rfl ?_)|(refine k_l ?_;refine g_l rfl ?_)|(refine k_i ?_;refine g_i rfl rfl ?_)|(refine k_st ?_;refine g_st rfl rfl rfl rfl ?_)|(refine b_w ⟨2,0,j⟩ rfl ?_)|(refine b_p rfl ?_))
     |refine a_n ?_
     |(refine k_V ?_;first|refine v_seq ?_|refine v_reg ?_|refine v_dreg ?_))
    refine LA.ent (Bs:=hp a ({z.bn with xs:=z.xs++[yn],cd:=cd',used:=z.used+(1+kc),regs:=z.regs.set ka ⟨2,0,j⟩}:HX)) ?_ ?_
    ·rw[hsl]
     refine((Pm.ent (As1:=[slA 8 csv cd' (z.xs++[yn]),prA z.xs,slA 6 pv yn.d yn.c.pairs,hdA a _,slA 3 wv z.rd (z.regs.set ka ⟨2,0,j⟩),slA 1 iv z.gd z.gray]) pmt).trans (cl_snoc (y:=yn))).trans (Pm.ent (fin ({z.bn with xs:=z.xs++[yn],cd:=cd',used:=z.used+(1+kc),regs:=z.regs.set ka ⟨2,0,j⟩}:HX) (h1:=by simp[HX.hdr,Hdr.s_room,Hdr.s_used,Hdr.s_born,Hdr.s_phase,Hdr.s_hand,Hdr.s_sub,Hdr.s_per,Hdr.s_start,Hdr.s_rounds,Hdr.s_forced,Hdr.s_rd,Hdr.s_cd,Hdr.s_gd,HX.bn]) (h2:=by simp[HX.hdr,Hdr.s_room,Hdr.s_used,Hdr.s_born,Hdr.s_phase,Hdr.s_hand,Hdr.s_sub,Hdr.s_per,Hdr.s_start,Hdr.s_rounds,Hdr.s_forced,Hdr.s_rd,Hdr.s_cd,Hdr.s_gd,HX.bn]) (e1:=by simp[HX.hdr,Hdr.s_room,Hdr.s_used,Hdr.s_born,Hdr.s_phase,Hdr.s_hand,Hdr.s_sub,Hdr.s_per,Hdr.s_start,Hdr.s_rounds,Hdr.s_forced,Hdr.s_rd,Hdr.s_cd,Hdr.s_gd,HX.bn])))
    refine g_c rfl (l5pace_a (x:=({z.bn with xs:=z.xs++[yn],cd:=cd',used:=z.used+(1+kc),regs:=z.regs.set ka ⟨2,0,j⟩}:HX)) (u:=1+(kc:Int)) (by show Sound (HX.H {z.bn with xs:=z.xs++[yn],used:=z.used+(1+kc),regs:=z.regs.set ka ⟨2,0,j⟩});rw[hH];exact new_sound f1 (by omega) (by omega) (by omega) (by omega)) (by omega)) (fun v' As' hq=>?_)
    obtain⟨r,rfl,hr⟩:=hq
    repeat' (first
     |(refine k_L ?_;first|(refine k_st ?_;refine g_sw rfl rfl rfl rfl (Nat.le_of_ble_eq_true rfl) ?_)|(refine k_c ?_;refine a_cq rfl (fun m hm=>l5fine_q) ?_))
     |refine a_n ?_
     |(refine k_V ?_;first|refine v_seq ?_|refine v_reg ?_|refine v_ret ?_)
     |refine sk_zero ?_
     |refine sk_succ ?_
     |refine wk_nil ?_
     |refine wk_cons ?_)
    exact fa_r (fun _ _=>rfl) (Pm.ent pmt) ⟨r,rfl,rfl,by rw[hr];exact congrArg (fun K=>K.paceH (1+(kc:Int))) hH⟩
   ·obtain⟨y0,gy0,gc0⟩:=HX.at (x:=z) (i:=j) (by omega)
    have gy0':z.bn.xs[j]?=some y0:=gy0
    have hH:HX.H {z.bn with xs:=z.xs.set j yn,used:=z.used+(1+kc),regs:=z.regs.set ka ⟨2,0,j⟩}=z.H.newH (ka:Int).toNat kb (kc:Int).toNat:=by
     unfold Heap.newH
     rw[hj,Int.toNat_natCast,Int.toNat_natCast,Int.toNat_natCast]
     unfold addC
     rw[if_neg (by rw[zl];exact hje),←hy]
     unfold HX.H HX.bn
     simp only[List.map_set,Heap.mk.injEq,true_and,and_true]
     omega
    repeat' (first
     |(refine k_L ?_;first|refine a_p rfl ?_|(refine k_l ?_;refine g_l rfl ?_)|(refine k_i ?_;refine g_i rfl rfl ?_))
     |refine a_n ?_
     |(refine k_V ?_;first|refine v_seq ?_|refine v_reg ?_|refine v_dreg ?_|(refine v_cd rfl (fun hb=>?_) (fun hb=>?_)<;>try(exfalso;omega))))
    refine LA.ent (Bs:=[slA 8 csv z.bn.cd z.bn.xs,slA 6 pv y0.d y0.c.pairs,prA (z.bn.xs.eraseIdx j),slA 6 pv g (List.replicate kc Pair.no),hdA a z.bn.hdr,slA 3 wv z.bn.rd z.bn.regs,slA 1 iv z.bn.gd z.bn.gray]) ?_ ?_
    ·exact(Pm.ent (As1:=[clA z.bn.cd z.bn.xs,slA 6 pv g (List.replicate kc Pair.no),hdA a z.bn.hdr,slA 3 wv z.bn.rd z.bn.regs,slA 1 iv z.bn.gd z.bn.gray]) pmt).trans ((cl_split gy0').trans (Pm.ent pmt))
    refine a_st rfl rfl rfl rfl (up_h (up_sl (j:=0) (e':=yn) csv_len gy0' (by simp[Value.cells]) (by rw[←hy];rfl))) ?_
    repeat' (first
     |(refine k_L ?_;first|(refine k_ad ?_;refine g_ad rfl rfl ?_)|(refine k_l ?_;refine g_l rfl ?_)|(refine k_i ?_;refine g_i rfl rfl ?_)|(refine k_st ?_;refine g_st rfl rfl rfl rfl ?_)|(refine b_w ⟨2,0,j⟩ rfl ?_)|(refine b_p rfl ?_))
     |refine a_n ?_
     |(refine k_V ?_;first|refine v_seq ?_|refine v_reg ?_|refine v_dreg ?_))
    refine LA.ent (Bs:=hp a ({z.bn with xs:=z.xs.set j yn,used:=z.used+(1+kc),regs:=z.regs.set ka ⟨2,0,j⟩}:HX)) ?_ ?_
    ·rw[hsl]
     refine((Pm.ent (As1:=[slA 8 csv z.cd (z.xs.set j yn),slA 6 pv yn.d yn.c.pairs,prA (z.xs.eraseIdx j),hdA a _,slA 3 wv z.rd (z.regs.set ka ⟨2,0,j⟩),slA 1 iv z.gd z.gray]) pmt).trans (cl_join (y':=yn) (by omega))).trans (Pm.ent (fin ({z.bn with xs:=z.xs.set j yn,used:=z.used+(1+kc),regs:=z.regs.set ka ⟨2,0,j⟩}:HX) (h1:=by simp[HX.hdr,Hdr.s_room,Hdr.s_used,Hdr.s_born,Hdr.s_phase,Hdr.s_hand,Hdr.s_sub,Hdr.s_per,Hdr.s_start,Hdr.s_rounds,Hdr.s_forced,Hdr.s_rd,Hdr.s_cd,Hdr.s_gd,HX.bn]) (h2:=by simp[HX.hdr,Hdr.s_room,Hdr.s_used,Hdr.s_born,Hdr.s_phase,Hdr.s_hand,Hdr.s_sub,Hdr.s_per,Hdr.s_start,Hdr.s_rounds,Hdr.s_forced,Hdr.s_rd,Hdr.s_cd,Hdr.s_gd,HX.bn]) (e1:=by simp[HX.hdr,Hdr.s_room,Hdr.s_used,Hdr.s_born,Hdr.s_phase,Hdr.s_hand,Hdr.s_sub,Hdr.s_per,Hdr.s_start,Hdr.s_rounds,Hdr.s_forced,Hdr.s_rd,Hdr.s_cd,Hdr.s_gd,HX.bn])))
    refine g_c rfl (l5pace_a (x:=({z.bn with xs:=z.xs.set j yn,used:=z.used+(1+kc),regs:=z.regs.set ka ⟨2,0,j⟩}:HX)) (u:=1+(kc:Int)) (by show Sound (HX.H {z.bn with xs:=z.xs.set j yn,used:=z.used+(1+kc),regs:=z.regs.set ka ⟨2,0,j⟩});rw[hH];exact new_sound f1 (by omega) (by omega) (by omega) (by omega)) (by omega)) (fun v' As' hq=>?_)
    obtain⟨r,rfl,hr⟩:=hq
    repeat' (first
     |(refine k_L ?_;first|(refine k_st ?_;refine g_sw rfl rfl rfl rfl (Nat.le_of_ble_eq_true rfl) ?_)|(refine k_c ?_;refine a_cq rfl (fun m hm=>l5fine_q) ?_))
     |refine a_n ?_
     |(refine k_V ?_;first|refine v_seq ?_|refine v_reg ?_|refine v_ret ?_)
     |refine sk_zero ?_
     |refine sk_succ ?_
     |refine wk_nil ?_
     |refine wk_cons ?_)
    exact fa_r (fun _ _=>rfl) (Pm.ent pmt) ⟨r,rfl,rfl,by rw[hr];exact congrArg (fun K=>K.paceH (1+(kc:Int))) hH⟩
  ·rw[if_neg c2]
   repeat' (first
    |(refine k_L ?_;first|(refine k_ad ?_;refine g_ad rfl rfl ?_)|refine a_p rfl ?_|(refine k_g ?_;first|refine a_gy rfl rfl ?_|(refine a_gd rfl (fun hb=>?_) (fun hb=>?_)<;>try(exfalso;omega)))|(refine k_l ?_;refine g_l rfl ?_)|(refine k_st ?_;first|refine g_st rfl rfl rfl rfl ?_|refine g_sw rfl rfl rfl rfl (Nat.le_of_ble_eq_true rfl) ?_)|(refine k_al ?_;refine a_al ?_)|(refine k_bx ?_;refine a_bx rfl rfl ?_)|(refine k_c ?_;refine a_cq rfl (fun m hm=>l5bad_q) ?_)|(refine g_c rfl (l5room_a (x:=x) (u:=1+(kc:Int)) h (by omega)) (fun v As' hq=>?_);obtain⟨z,rfl,rfl,hz⟩:=hq))
    |refine a_n ?_
    |(refine k_V ?_;first|refine v_seq ?_|refine v_reg ?_|refine v_ret ?_|refine v_skip ?_|(refine v_cnd rfl (fun hb=>?_) (fun hb=>?_)<;>try(exfalso;omega)))
    |refine s_r ?_
    |refine sk_zero ?_
    |refine sk_succ ?_
    |refine wk_nil ?_
    |refine wk_cons ?_)
   all_goals first
    |(exfalso;rw[hF]at hb;omega)
    |exact fa_r (fun _ _=>rfl) (Pm.ent pmt) ⟨z,rfl,rfl,by rw[hz,hF]⟩
    |trace_state
theorem actOk_t{m:Mem}{b:Act}(h:ActP b):Qt Tryz.prog 53 [actV b] m (.bool true):=qt_e specActOk_q (congrArg Value.bool (decide_eq_true h))
theorem do_1{a:Nat}{x:HX}{n:Int}{ka kb kc:Nat}(h:Sound x.H)(hP:ActP ⟨1,ka,kb,kc,n⟩):FnA Tryz.prog 26 [ptr a,.agg #[.int .i64 1,.int .i64 ka,.int .i64 kb,.int .i64 kc,.int .i64 n]] (hp a x) (fun v As=>∃z:HX,v=an (doNew x.H ⟨1,ka,kb,kc,n⟩).code (doNew x.H ⟨1,ka,kb,kc,n⟩).num∧As=hp a z∧z.H=(doNew x.H ⟨1,ka,kb,kc,n⟩).heap):=by
 have hQ:=hP
 simp[ActP,aMost,bMost,cMost]at hQ
 refine fnA_of (fun h=>fn26 (by simp) h) ?_
 repeat' (first
  |(refine k_L ?_;first|refine a_p rfl ?_|(refine k_st ?_;refine g_sw rfl rfl rfl rfl (Nat.le_of_ble_eq_true rfl) ?_)|(refine k_al ?_;refine a_al ?_)|(refine k_bx ?_;refine a_bx rfl rfl ?_)|(refine k_c ?_;refine a_cq rfl (fun m hm=>actOk_t (b:=⟨1,ka,kb,kc,n⟩) hP) ?_)|(refine g_c rfl (l5make_a (x:=x) (op:=1) (n:=n) (ka:=ka) (kb:=kb) (kc:=kc) h (by omega) (by omega) (by omega)) (fun v As' hq=>?_);obtain⟨z,rfl,rfl,hz⟩:=hq))
  |refine a_n ?_
  |(refine k_V ?_;first|refine v_seq ?_|refine v_reg ?_|refine v_bs ?_|refine v_ret ?_|refine v_skip ?_|refine v_ct rfl ?_|refine v_cf rfl ?_)
  |refine s_r ?_
  |refine b_r ?_
  |refine sk_zero ?_
  |refine sk_succ ?_
  |refine wk_nil ?_
  |refine wk_cons ?_)
 all_goals exact fa_r (fun _ _=>rfl) (Pm.ent pmt) ⟨z,rfl,rfl,hz⟩
theorem do_5{a:Nat}{x:HX}{n:Int}{ka kb kc:Nat}(h:Sound x.H)(hP:ActP ⟨5,ka,kb,kc,n⟩):FnA Tryz.prog 26 [ptr a,.agg #[.int .i64 5,.int .i64 ka,.int .i64 kb,.int .i64 kc,.int .i64 n]] (hp a x) (fun v As=>∃z:HX,v=an (doPair x.H ⟨5,ka,kb,kc,n⟩).code (doPair x.H ⟨5,ka,kb,kc,n⟩).num∧As=hp a z∧z.H=(doPair x.H ⟨5,ka,kb,kc,n⟩).heap):=by
 have hQ:=hP
 simp[ActP,aMost,bMost,cMost]at hQ
 refine fnA_of (fun h=>fn26 (by simp) h) ?_
 repeat' (first
  |(refine k_L ?_;first|refine a_p rfl ?_|(refine k_st ?_;refine g_sw rfl rfl rfl rfl (Nat.le_of_ble_eq_true rfl) ?_)|(refine k_al ?_;refine a_al ?_)|(refine k_bx ?_;refine a_bx rfl rfl ?_)|(refine k_c ?_;refine a_cq rfl (fun m hm=>actOk_t (b:=⟨5,ka,kb,kc,n⟩) hP) ?_)|(refine g_c rfl (l5pair_rd (x:=x) (op:=5) (n:=n) (ka:=ka) (kb:=kb) (kc:=kc) h (by omega) (by omega) (by omega)) (fun v As' hq=>?_);obtain⟨z,rfl,rfl,hz⟩:=hq))
  |refine a_n ?_
  |(refine k_V ?_;first|refine v_seq ?_|refine v_reg ?_|refine v_bs ?_|refine v_ret ?_|refine v_skip ?_|refine v_ct rfl ?_|refine v_cf rfl ?_)
  |refine s_r ?_
  |refine b_r ?_
  |refine sk_zero ?_
  |refine sk_succ ?_
  |refine wk_nil ?_
  |refine wk_cons ?_)
 all_goals exact fa_r (fun _ _=>rfl) (Pm.ent pmt) ⟨z,rfl,rfl,hz⟩
theorem do_6{a:Nat}{x:HX}{n:Int}{ka kb kc:Nat}(h:Sound x.H)(hP:ActP ⟨6,ka,kb,kc,n⟩):FnA Tryz.prog 26 [ptr a,.agg #[.int .i64 6,.int .i64 ka,.int .i64 kb,.int .i64 kc,.int .i64 n]] (hp a x) (fun v As=>∃z:HX,v=an (doPair x.H ⟨6,ka,kb,kc,n⟩).code (doPair x.H ⟨6,ka,kb,kc,n⟩).num∧As=hp a z∧z.H=(doPair x.H ⟨6,ka,kb,kc,n⟩).heap):=by
 have hQ:=hP
 simp[ActP,aMost,bMost,cMost]at hQ
 refine fnA_of (fun h=>fn26 (by simp) h) ?_
 repeat' (first
  |(refine k_L ?_;first|refine a_p rfl ?_|(refine k_st ?_;refine g_sw rfl rfl rfl rfl (Nat.le_of_ble_eq_true rfl) ?_)|(refine k_al ?_;refine a_al ?_)|(refine k_bx ?_;refine a_bx rfl rfl ?_)|(refine k_c ?_;refine a_cq rfl (fun m hm=>actOk_t (b:=⟨6,ka,kb,kc,n⟩) hP) ?_)|(refine g_c rfl (l5pair_rd (x:=x) (op:=6) (n:=n) (ka:=ka) (kb:=kb) (kc:=kc) h (by omega) (by omega) (by omega)) (fun v As' hq=>?_);obtain⟨z,rfl,rfl,hz⟩:=hq))
  |refine a_n ?_
  |(refine k_V ?_;first|refine v_seq ?_|refine v_reg ?_|refine v_bs ?_|refine v_ret ?_|refine v_skip ?_|refine v_ct rfl ?_|refine v_cf rfl ?_)
  |refine s_r ?_
  |refine b_r ?_
  |refine sk_zero ?_
  |refine sk_succ ?_
  |refine wk_nil ?_
  |refine wk_cons ?_)
 all_goals exact fa_r (fun _ _=>rfl) (Pm.ent pmt) ⟨z,rfl,rfl,hz⟩
theorem do_7{a:Nat}{x:HX}{n:Int}{ka kb kc:Nat}(h:Sound x.H)(hP:ActP ⟨7,ka,kb,kc,n⟩):FnA Tryz.prog 26 [ptr a,.agg #[.int .i64 7,.int .i64 ka,.int .i64 kb,.int .i64 kc,.int .i64 n]] (hp a x) (fun v As=>∃z:HX,v=an (doPair x.H ⟨7,ka,kb,kc,n⟩).code (doPair x.H ⟨7,ka,kb,kc,n⟩).num∧As=hp a z∧z.H=(doPair x.H ⟨7,ka,kb,kc,n⟩).heap):=by
 have hQ:=hP
 simp[ActP,aMost,bMost,cMost]at hQ
 refine fnA_of (fun h=>fn26 (by simp) h) ?_
 repeat' (first
  |(refine k_L ?_;first|refine a_p rfl ?_|(refine k_st ?_;refine g_sw rfl rfl rfl rfl (Nat.le_of_ble_eq_true rfl) ?_)|(refine k_al ?_;refine a_al ?_)|(refine k_bx ?_;refine a_bx rfl rfl ?_)|(refine k_c ?_;refine a_cq rfl (fun m hm=>actOk_t (b:=⟨7,ka,kb,kc,n⟩) hP) ?_)|(refine g_c rfl (l5pair_wr (x:=x) (op:=7) (n:=n) (ka:=ka) (kb:=kb) (kc:=kc) h (by omega) (by omega) (by omega)) (fun v As' hq=>?_);obtain⟨z,rfl,rfl,hz⟩:=hq))
  |refine a_n ?_
  |(refine k_V ?_;first|refine v_seq ?_|refine v_reg ?_|refine v_bs ?_|refine v_ret ?_|refine v_skip ?_|refine v_ct rfl ?_|refine v_cf rfl ?_)
  |refine s_r ?_
  |refine b_r ?_
  |refine sk_zero ?_
  |refine sk_succ ?_
  |refine wk_nil ?_
  |refine wk_cons ?_)
 all_goals exact fa_r (fun _ _=>rfl) (Pm.ent pmt) ⟨z,rfl,rfl,hz⟩
theorem do_8{a:Nat}{x:HX}{n:Int}{ka kb kc:Nat}(h:Sound x.H)(hP:ActP ⟨8,ka,kb,kc,n⟩):FnA Tryz.prog 26 [ptr a,.agg #[.int .i64 8,.int .i64 ka,.int .i64 kb,.int .i64 kc,.int .i64 n]] (hp a x) (fun v As=>∃z:HX,v=an (doPair x.H ⟨8,ka,kb,kc,n⟩).code (doPair x.H ⟨8,ka,kb,kc,n⟩).num∧As=hp a z∧z.H=(doPair x.H ⟨8,ka,kb,kc,n⟩).heap):=by
 have hQ:=hP
 simp[ActP,aMost,bMost,cMost]at hQ
 refine fnA_of (fun h=>fn26 (by simp) h) ?_
 repeat' (first
  |(refine k_L ?_;first|refine a_p rfl ?_|(refine k_st ?_;refine g_sw rfl rfl rfl rfl (Nat.le_of_ble_eq_true rfl) ?_)|(refine k_al ?_;refine a_al ?_)|(refine k_bx ?_;refine a_bx rfl rfl ?_)|(refine k_c ?_;refine a_cq rfl (fun m hm=>actOk_t (b:=⟨8,ka,kb,kc,n⟩) hP) ?_)|(refine g_c rfl (l5pair_wr (x:=x) (op:=8) (n:=n) (ka:=ka) (kb:=kb) (kc:=kc) h (by omega) (by omega) (by omega)) (fun v As' hq=>?_);obtain⟨z,rfl,rfl,hz⟩:=hq))
  |refine a_n ?_
  |(refine k_V ?_;first|refine v_seq ?_|refine v_reg ?_|refine v_bs ?_|refine v_ret ?_|refine v_skip ?_|refine v_ct rfl ?_|refine v_cf rfl ?_)
  |refine s_r ?_
  |refine b_r ?_
  |refine sk_zero ?_
  |refine sk_succ ?_
  |refine wk_nil ?_
  |refine wk_cons ?_)
 all_goals exact fa_r (fun _ _=>rfl) (Pm.ent pmt) ⟨z,rfl,rfl,hz⟩
theorem wand1(x:BitVec IntKind.i64.bits):0≤IntKind.i64.wrap ((x&&&BitVec.ofInt IntKind.i64.bits 1).toNat:Int):=by
 have h:(x&&&BitVec.ofInt IntKind.i64.bits 1).toNat≤1:=by
  rw[BitVec.toNat_and];exact Nat.and_le_right
 generalize(x&&&BitVec.ofInt IntKind.i64.bits 1).toNat=n at*
 rcases(by omega:n=0∨n=1)with rfl|rfl<;>decide
theorem wand2(x:BitVec IntKind.i64.bits):0≤IntKind.i64.wrap ((x&&&BitVec.ofInt IntKind.i64.bits 2).toNat:Int):=by
 have h:(x&&&BitVec.ofInt IntKind.i64.bits 2).toNat≤2:=by
  rw[BitVec.toNat_and];exact Nat.and_le_right
 generalize(x&&&BitVec.ofInt IntKind.i64.bits 2).toNat=n at*
 rcases(by omega:n=0∨n=1∨n=2)with rfl|rfl|rfl<;>decide
theorem keyw_pos{c:Cell}:IntKind.i64.wrap (BitVec.ofInt IntKind.i64.bits c.weak&&&BitVec.ofInt IntKind.i64.bits 1).toNat>0↔¬KeyW c:=by
 have:=wand1 (BitVec.ofInt IntKind.i64.bits c.weak)
 unfold KeyW
 omega
theorem valw_pos{c:Cell}:IntKind.i64.wrap (BitVec.ofInt IntKind.i64.bits c.weak&&&BitVec.ofInt IntKind.i64.bits 2).toNat>0↔¬ValW c:=by
 have:=wand2 (BitVec.ofInt IntKind.i64.bits c.weak)
 unfold ValW
 omega
noncomputable def Heap.dk(K H:Heap)(c:Cell)(i k:Nat):Heap:={K with cells:=K.cells.set i {c with pairs:=c.pairs.take k++kept H c (c.pairs.drop k)},used:=K.used-nGone H c (c.pairs.drop k),sub:=if H.walkedI=i then K.sub-nGone H c ((c.pairs.take K.sub.toNat).drop k)else K.sub}
theorem set_same{l:List Cell}{i:Nat}{c:Cell}(h:l[i]?=some c):l.set i c=l:=by
 apply List.ext_getElem?
 intro j
 rw[List.getElem?_set]
 split
 ·rename_i e;subst e
  rw[if_pos (List.getElem?_eq_some_iff.1 h).1,h]
 ·rfl
theorem dk_top{K H:Heap}{c:Cell}{i:Nat}(h:K.cells[i]?=some c):K.dk H c i c.pairs.length=K:=by
 unfold Heap.dk
 have e0:nGone H c []=0:=rfl
 have e1:(c.pairs.take K.sub.toNat).drop c.pairs.length=[]:=List.drop_eq_nil_of_le (by rw[List.length_take];omega)
 rw[List.take_length,List.drop_length,kept_nil,List.append_nil,e1,e0]
 have e2:({c with pairs:=c.pairs}:Cell)=c:=rfl
 rw[e2,set_same h]
 simp
theorem dk_bot{K H:Heap}{c:Cell}{i:Nat}(h:K.getC i=c):K.dk H c i 0=H.cutC K i:=by
 unfold Heap.dk Heap.cutC
 rw[h,List.take_zero,List.drop_zero,List.nil_append,List.drop_zero]
theorem drop_s{c:Cell}{k:Nat}{p:Pair}(hp:c.pairs[k]?=some p):c.pairs.drop k=[p]++c.pairs.drop (k+1):=by
 have h:=List.getElem?_eq_some_iff.1 hp
 rw[List.drop_eq_getElem_cons h.1,h.2];rfl
theorem dk_keep{K H:Heap}{c:Cell}{i k:Nat}{p:Pair}(hp:c.pairs[k]?=some p)(hg:¬GoneP H c p):K.dk H c i k=K.dk H c i (k+1):=by
 unfold Heap.dk
 have e1:c.pairs.take k++kept H c (c.pairs.drop k)=c.pairs.take (k+1)++kept H c (c.pairs.drop (k+1)):=by
  rw[drop_s hp,kept_app,kept_one,if_neg hg,take_s hp,List.append_assoc]
 have e2:nGone H c (c.pairs.drop k)=nGone H c (c.pairs.drop (k+1)):=by rw[drop_s hp,nGone_app,nGone_one,if_neg hg];omega
 have e3:nGone H c ((c.pairs.take K.sub.toNat).drop k)=nGone H c ((c.pairs.take K.sub.toNat).drop (k+1)):=by
  by_cases h:k<K.sub.toNat
  ·have hp':(c.pairs.take K.sub.toNat)[k]?=some p:=by rw[List.getElem?_take,if_pos h];exact hp
   have h':=List.getElem?_eq_some_iff.1 hp'
   rw[List.drop_eq_getElem_cons h'.1,h'.2]
   have:p::(c.pairs.take K.sub.toNat).drop (k+1)=[p]++(c.pairs.take K.sub.toNat).drop (k+1):=rfl
   rw[this,nGone_app,nGone_one,if_neg hg];omega
  ·rw[List.drop_eq_nil_of_le (by rw[List.length_take];omega),List.drop_eq_nil_of_le (by rw[List.length_take];omega)]
 rw[e1,e2,e3]
theorem dk_gone{K H:Heap}{c:Cell}{i k:Nat}{p:Pair}(hi:i<K.cells.length)(hp:c.pairs[k]?=some p)(hg:GoneP H c p):
 K.dk H c i k={K.dk H c i (k+1)with cells:=(K.dk H c i (k+1)).cells.set i {c with pairs:=(c.pairs.take (k+1)++kept H c (c.pairs.drop (k+1))).eraseIdx k},used:=(K.dk H c i (k+1)).used-1,sub:=if(k:Int)<(K.dk H c i (k+1)).sub∧H.walkedI=i then(K.dk H c i (k+1)).sub-1 else(K.dk H c i (k+1)).sub}:=by
 have hkl:=(List.getElem?_eq_some_iff.1 hp).1
 have e1:c.pairs.take k++kept H c (c.pairs.drop k)=(c.pairs.take (k+1)++kept H c (c.pairs.drop (k+1))).eraseIdx k:=by
  rw[drop_s hp,kept_app,kept_one,if_pos hg,take_s hp,List.append_assoc,List.eraseIdx_append_of_length_le (by rw[List.length_take];omega)]
  have:k-(c.pairs.take k).length=0:=by rw[List.length_take];omega
  rw[this];rfl
 have e2:nGone H c (c.pairs.drop k)=nGone H c (c.pairs.drop (k+1))+1:=by rw[drop_s hp,nGone_app,nGone_one,if_pos hg];omega
 have e3:(if H.walkedI=i then K.sub-(nGone H c ((c.pairs.take K.sub.toNat).drop k):Nat)else K.sub)=if(k:Int)<(if H.walkedI=i then K.sub-(nGone H c ((c.pairs.take K.sub.toNat).drop (k+1)):Nat)else K.sub)∧H.walkedI=i then(if H.walkedI=i then K.sub-(nGone H c ((c.pairs.take K.sub.toNat).drop (k+1)):Nat)else K.sub)-1 else(if H.walkedI=i then K.sub-(nGone H c ((c.pairs.take K.sub.toNat).drop (k+1)):Nat)else K.sub):=by
  by_cases hw:H.walkedI=i
  ·simp only[hw,if_true,and_true]
   have hn:=nGone_le H c ((c.pairs.take K.sub.toNat).drop (k+1))
   rw[List.length_drop,List.length_take]at hn
   by_cases h:(k:Int)<K.sub
   ·have hp':(c.pairs.take K.sub.toNat)[k]?=some p:=by rw[List.getElem?_take,if_pos (by omega)];exact hp
    have h':=List.getElem?_eq_some_iff.1 hp'
    have e4:nGone H c ((c.pairs.take K.sub.toNat).drop k)=nGone H c ((c.pairs.take K.sub.toNat).drop (k+1))+1:=by
     rw[List.drop_eq_getElem_cons h'.1,h'.2]
     have:p::(c.pairs.take K.sub.toNat).drop (k+1)=[p]++(c.pairs.take K.sub.toNat).drop (k+1):=rfl
     rw[this,nGone_app,nGone_one,if_pos hg];omega
    rw[if_pos (by omega),e4];omega
   ·have e5:∀j,k≤j→(c.pairs.take K.sub.toNat).drop j=[]:=fun j hj=>List.drop_eq_nil_of_le (by rw[List.length_take];omega)
    rw[e5 k (Nat.le_refl _),e5 (k+1) (by omega)]
    have e0:nGone H c []=0:=rfl
    rw[e0,if_neg (by omega)]
  ·simp only[hw,if_false,and_false]
 unfold Heap.dk
 simp only[List.set_set]
 rw[e1,e3]
 have e6:K.used-((nGone H c (c.pairs.drop k):Nat):Int)=K.used-(nGone H c (c.pairs.drop (k+1)):Nat)-1:=by rw[e2];omega
 rw[e6]
theorem dk_like{K H:Heap}{c:Cell}{i k:Nat}(h:Like H K)(hi:K.cells[i]?=some c):Like H (K.dk H c i k):=by
 have hlt:=(List.getElem?_eq_some_iff.1 hi).1
 have hg:=getC_nat hi
 exact h.trans (like_set (c:={c with pairs:=c.pairs.take k++kept H c (c.pairs.drop k)}) hlt (by rw[hg];exact⟨rfl,rfl,rfl,rfl,rfl,rfl⟩) rfl rfl rfl rfl rfl rfl rfl rfl rfl rfl rfl)
theorem l4settle_a{a:Nat}{x:HX}(h:Sound x.H):FnA Tryz.prog 59 [ptr a] (hp a x) (fun v As=>∃z:HX,v=.tuple #[.int .i64 (g1 x.H x.H.cells.length:Nat),.int .i64 (d2 x.H x.H.cells.length:Nat)]∧As=hp a z∧z.H=x.H.settleH):=by
 obtain⟨q1,q2,q3⟩:=sound_gray h
 have hl:=x.len
 have hnc:x.hdr.nc=x.xs.length:=rfl
 have h2:=h.r2
 have hrm:=h.r1.room
 have hsb:=h.r1.sub
 have hus:=h.r3
 have hun:=pairsN_units h2
 have hpn:=pairsN_nonneg x.H.cells
 unfold R3 at hus
 have hln:=heldL_len x.H
 refine fnA_of (fun h=>fn59 (by simp) h) ?_
 repeat' (first
  |(refine k_L ?_;first|refine a_p rfl ?_|(refine k_l ?_;refine g_l rfl ?_)|(refine g_c rfl (fna_ro (q:=fun v E=>∃sd:D,v=.slice sd.a (heldL x.H).length sd.cap∧E=[slA 1 bv sd (heldL x.H)]) (Bs:=hp a x) (fun m hm=>(l2holds_a (has_star hm) h.r1 h.r2 h.r4).mono (fun v As ⟨sd,e1,e2⟩=>⟨_,⟨sd,e1,rfl⟩,e2⟩))) (fun v As' hq=>?_);obtain⟨_,⟨sd,rfl,rfl⟩,rfl⟩:=hq))
  |refine a_n ?_
  |(refine k_V ?_;first|refine v_seq ?_|refine v_reg ?_)
  |refine s_n ?_)
 refine g_range x.xs.length (fun q:HX×Nat=>[(0,.v (ptr a)),(4,.v (.slice sd.a (heldL x.H).length sd.cap)),(5,.v (.int .i64 q.2))]) (fun q=>hp a q.1++[slA 1 bv sd (heldL x.H)]) (fun i q=>q.1.H=p1 x.H i∧q.2=g1 x.H i) ((x,0):HX×Nat) ⟨rfl,rfl⟩ (fun i q hi hv=>?_) (fun q hv=>?_)
 ·obtain⟨z,g⟩:=q
  obtain⟨hz,hg⟩:=hv
  simp only at hz hg
  subst hg
  dsimp only
  obtain⟨lk,lc,lla,lu,ls1,ls2⟩:=p1_ok x.H i (by omega)
  rw[←hz]at lk lc lla lu ls1 ls2
  have hzl:=z.len
  have hzn:z.hdr.nc=z.xs.length:=rfl
  have hzx:z.xs.length=x.xs.length:=by rw[←hzl,lk.len,hl]
  obtain⟨y,gy,gyc⟩:=HX.at (x:=z) (i:=i) (by omega)
  have gk:=HX.gc gy
  have gx:x.H.getC i=y.c:=by rw[←lc i (Nat.le_refl _)];exact gk
  have gxs:=getL_some (cs:=x.H.cells) (j:=i) (by omega) (by omega)
  rw[Int.toNat_natCast,←getC_L,gx]at gxs
  have hpl:=h2.pl (List.mem_of_getElem? gxs)
  have hg1:=g1_le h2 i
  have hzu:z.used=x.H.used-g1 x.H i:=lu
  have hzs1:x.H.sub-g1 x.H i≤z.sub:=ls1
  have hzs2:z.sub≤x.H.sub:=ls2
  have hgi:=heldL_get (H:=x.H) (j:=i) (by omega)
  have eg:g1 x.H (i+1)=if Held x.H i then g1 x.H i+nGone x.H y.c y.c.pairs else g1 x.H i:=by show(if _ then _ else _)=_;rw[gx]
  have ep:p1 x.H (i+1)=if Held x.H i then x.H.cutC z.H i else z.H:=by show(if _ then _ else _)=_;rw[hz]
  have gy':z.xs[(i:Int).toNat]?=some y:=gy
  by_cases hh:Held x.H i
  ·rw[decide_eq_true hh]at hgi
   rw[if_pos hh]at eg ep
   have hgi':(heldL x.H)[(i:Int).toNat]?=some true:=hgi
   repeat' (first
    |(refine k_L ?_;first|(refine k_su ?_;refine g_su rfl rfl ?_)|refine a_p rfl ?_|(refine k_l ?_;refine g_l rfl ?_)|(refine k_i ?_;refine g_i rfl rfl ?_))
    |refine a_n ?_
    |(refine k_V ?_;first|refine v_seq ?_|refine v_reg ?_|refine v_skip ?_|refine v_cf rfl ?_)
    |refine s_n ?_)
   refine v_mono (Q:=seqA (Jx (fun u:HX=>[(5,.v (.int .i64 (g1 x.H i+nGone x.H y.c y.c.pairs:Nat))),(0,.v (ptr a)),(4,.v (.slice sd.a (heldL x.H).length sd.cap)),(6,.v (.int .i64 i)),(19,.v (.int .i64 i)),(18,.v (.int .i64 x.xs.length))]) (fun u=>hp a u++[slA 1 bv sd (heldL x.H)]) (fun u=>u.H=x.H.cutC z.H i)) (fun _ _ _=>False)) ?_ ?_
   ·refine v_blk ?_
    refine v_loop (fun q:Nat×HX=>[(7,.v (.int .i64 ((q.1:Int)-1))),(5,.v (.int .i64 (g1 x.H i+nGone x.H y.c (y.c.pairs.drop q.1):Nat))),(0,.v (ptr a)),(4,.v (.slice sd.a (heldL x.H).length sd.cap)),(6,.v (.int .i64 i)),(19,.v (.int .i64 i)),(18,.v (.int .i64 x.xs.length))]) (fun q=>hp a q.2++[slA 1 bv sd (heldL x.H)]) (fun n q=>n=q.1∧q.1≤y.c.pairs.length∧q.2.H=z.H.dk x.H y.c i q.1) ⟨_,(y.c.pairs.length,z),?_,Pm.ent pmt,rfl,Nat.le_refl _,?_⟩ ?_
    ·simp only[List.drop_length]
     repeat(first|exact trivial|refine⟨rfl,?_⟩)
    ·exact(dk_top gyc).symm
    rintro n ⟨k,u⟩ ⟨hnk,hk,hu⟩
    simp only at hnk hk hu
    dsimp only
    have lu':=dk_like (H:=x.H) (i:=i) (k:=k) lk gyc
    rw[←hu]at lu'
    have hul:=u.len
    have hun:u.hdr.nc=u.xs.length:=rfl
    have hux:u.xs.length=x.xs.length:=by rw[←hul,lu'.len,hl]
    have hlt:i<z.H.cells.length:=by omega
    obtain⟨w,gw,gwc⟩:=HX.at (x:=u) (i:=i) (by omega)
    have ewc:w.c={y.c with pairs:=y.c.pairs.take k++kept x.H y.c (y.c.pairs.drop k)}:=by
     have h1:u.H.cells[i]?=some w.c:=gwc
     rw[hu]at h1
     have h3:(z.H.dk x.H y.c i k).cells[i]?=some {y.c with pairs:=y.c.pairs.take k++kept x.H y.c (y.c.pairs.drop k)}:=by
      show(z.H.cells.set i _)[i]?=_
      rw[List.getElem?_set,if_pos rfl,if_pos hlt]
     rw[h3]at h1
     exact(Option.some.inj h1).symm
    have gw':u.xs[(i:Int).toNat]?=some w:=gw
    have huu:u.used=z.used-nGone x.H y.c (y.c.pairs.drop k):=by
     have:u.H.used=z.H.used-nGone x.H y.c (y.c.pairs.drop k):=by rw[hu];rfl
     exact this
    have hus2:u.sub=if x.H.walkedI=i then z.sub-nGone x.H y.c ((y.c.pairs.take z.sub.toNat).drop k)else z.sub:=by
     have:u.H.sub=if x.H.walkedI=i then z.H.sub-nGone x.H y.c ((y.c.pairs.take z.H.sub.toNat).drop k)else z.H.sub:=by rw[hu];rfl
     exact this
    have hn1:nGone x.H y.c (y.c.pairs.drop k)≤200:=by
     have:=nGone_le x.H y.c (y.c.pairs.drop k)
     rw[List.length_drop]at this;omega
    have hn2:nGone x.H y.c ((y.c.pairs.take z.sub.toNat).drop k)≤200:=by
     have:=nGone_le x.H y.c ((y.c.pairs.take z.sub.toNat).drop k)
     rw[List.length_drop,List.length_take]at this;omega
    have hus3:z.sub-200≤u.sub∧u.sub≤z.sub:=by rw[hus2];split<;>omega
    cases k with
    |zero=>
     repeat' (first
      |(refine k_L ?_;refine a_p rfl ?_)
      |refine a_n ?_
      |(refine k_V ?_;first|refine v_seq ?_|refine v_reg ?_|refine v_exit ?_|refine v_cf rfl ?_)
      |refine s_n ?_
      |refine s_e ?_
      |refine b_e ?_)
     refine j_i u (by rw[hu,dk_bot gk]) (hl:=?_)
     simp only[List.drop_zero]
     repeat(first|exact trivial|refine⟨rfl,?_⟩)
    |succ k=>
     obtain⟨p,gp⟩:∃p,y.c.pairs[k]?=some p:=⟨_,List.getElem?_eq_getElem (by omega)⟩
     have gpw:w.c.pairs[k]?=some p:=by
      rw[ewc]
      show(y.c.pairs.take (k+1)++_)[k]?=_
      rw[List.getElem?_append_left (by rw[List.length_take];omega),List.getElem?_take,if_pos (by omega)];exact gp
     have hwl:=(List.getElem?_eq_some_iff.1 gpw).1
     have ekk:((k+1:Nat):Int)-1=k:=by omega
     have gpw':w.c.pairs[(k:Int).toNat]?=some p:=gpw
     have ewk:w.c.weak=y.c.weak:=by rw[ewc]
     have hwl2:w.c.pairs.length≤200:=by
      rw[ewc]
      show(y.c.pairs.take (k+1)++kept x.H y.c (y.c.pairs.drop (k+1))).length≤200
      have:=kept_len x.H y.c (y.c.pairs.drop (k+1))
      rw[List.length_append,List.length_take]
      rw[List.length_drop]at this
      omega
     obtain⟨pf1,pf2,_⟩:=h.r4.pairs i y.c gxs k p gp
     rw[ekk]
     refine v_seq ?_
     refine v_seq ?_
     repeat' (first
      |(refine k_L ?_;refine a_p rfl ?_)
      |refine a_n ?_
      |(refine k_V ?_;first|refine v_reg ?_|refine v_skip ?_|refine v_ct rfl ?_)
      |refine s_n ?_)
     refine v_seq ?_
     repeat' (first
      |refine a_n ?_
      |(refine k_V ?_;refine v_bs ?_))
     refine v_seq ?_
     repeat' (first
      |(refine k_L ?_;first|refine a_p rfl ?_|(refine k_l ?_;refine g_l rfl ?_)|(refine k_i ?_;refine g_i rfl rfl ?_)|(refine k_ls ?_;refine g_ls rfl ?_)|(refine k_st ?_;refine g_sw rfl rfl rfl rfl (Nat.le_of_ble_eq_true rfl) ?_)|(refine k_al ?_;refine a_al ?_))
      |refine a_n ?_
      |(refine k_V ?_;refine v_reg ?_)
      |refine s_n ?_
      |refine sk_zero ?_
      |refine sk_succ ?_
      |refine wk_nil ?_
      |refine wk_cons ?_)
     refine v_seq ?_
     repeat' (first
      |(refine k_L ?_;first|refine a_p rfl ?_|(refine k_l ?_;refine g_l rfl ?_)|(refine k_i ?_;refine g_i rfl rfl ?_))
      |refine a_n ?_
      |(refine k_V ?_;refine v_reg ?_)
      |refine s_n ?_)
     refine g_cut (fun _:Unit=>[(81,.v (.bool (decide (GoneP x.H y.c p)))),(7,.v (.int .i64 k)),(5,.v (.int .i64 (g1 x.H i+nGone x.H y.c (y.c.pairs.drop (k+1)):Nat))),(0,.v (ptr a)),(4,.v (.slice sd.a (heldL x.H).length sd.cap)),(6,.v (.int .i64 i)),(19,.v (.int .i64 i)),(18,.v (.int .i64 x.xs.length))]) (fun _=>hp a u++[slA 1 bv sd (heldL x.H)]) (fun _=>True) ?_ (fun _ _=>?_)
     ·have gwk:IntKind.i64.wrap (BitVec.ofInt IntKind.i64.bits w.c.weak&&&BitVec.ofInt IntKind.i64.bits 1).toNat>0↔¬KeyW y.c:=by rw[ewk];exact keyw_pos
      have gwv:IntKind.i64.wrap (BitVec.ofInt IntKind.i64.bits w.c.weak&&&BitVec.ofInt IntKind.i64.bits 2).toNat>0↔¬ValW y.c:=by rw[ewk];exact valw_pos
      repeat' (first
       |(refine k_L ?_;first|refine a_p rfl ?_|(refine k_g ?_;first|refine a_gy rfl rfl ?_|refine a_gn rfl rfl ?_|refine a_gu rfl ?_|(refine a_gd rfl (fun hb=>?_) (fun hb=>?_)<;>try(exfalso;omega)))|(refine a_cq rfl (fun m hm=>l4lost_q (z:=u) (H:=x.H) (sd:=sd) (w:=p.key) (sep_has hm pmt) (sep_has hm pmt) h2 lu' pf1) ?_)|(refine a_cq rfl (fun m hm=>l4lost_q (z:=u) (H:=x.H) (sd:=sd) (w:=p.val) (sep_has hm pmt) (sep_has hm pmt) h2 lu' pf2) ?_))
       |refine a_n ?_
       |(refine k_V ?_;refine v_reg ?_)
       |refine s_n ?_)
      ·refine j_i () trivial (hl:=⟨?_,by(repeat(first|exact trivial|refine⟨rfl,?_⟩))⟩)
       exact congrArg SV.v (ret_t (.inl ⟨gwk.1 (by assumption),by assumption⟩))
      ·refine j_i () trivial (hl:=⟨?_,by(repeat(first|exact trivial|refine⟨rfl,?_⟩))⟩)
       refine congrArg SV.v (congrArg Value.bool ?_)
       refine decide_eq_decide.2 ⟨fun h=>.inr ⟨gwv.1 (by assumption),h⟩,fun h=>?_⟩
       rcases h with h|h
       ·exact absurd h.2 (by assumption)
       ·exact h.2
      ·refine j_i () trivial (hl:=⟨?_,by(repeat(first|exact trivial|refine⟨rfl,?_⟩))⟩)
       refine congrArg SV.v (ret_f fun h=>?_)
       rcases h with h|h
       ·exact absurd h.2 (by assumption)
       ·exact absurd (gwv.2 h.1) (by assumption)
      ·refine j_i () trivial (hl:=⟨?_,by(repeat(first|exact trivial|refine⟨rfl,?_⟩))⟩)
       refine congrArg SV.v (congrArg Value.bool ?_)
       refine decide_eq_decide.2 ⟨fun h=>.inr ⟨gwv.1 (by assumption),h⟩,fun h=>?_⟩
       rcases h with h|h
       ·exact absurd (gwk.2 h.1) (by assumption)
       ·exact h.2
      ·refine j_i () trivial (hl:=⟨?_,by(repeat(first|exact trivial|refine⟨rfl,?_⟩))⟩)
       refine congrArg SV.v (ret_f fun h=>?_)
       rcases h with h|h
       ·exact absurd (gwk.2 h.1) (by assumption)
       ·exact absurd (gwv.2 h.1) (by assumption)
     by_cases hG:GoneP x.H y.c p
     ·have e2:nGone x.H y.c (y.c.pairs.drop k)=nGone x.H y.c (y.c.pairs.drop (k+1))+1:=by rw[drop_s gp,nGone_app,nGone_one,if_pos hG];omega
      have e3:((g1 x.H i+nGone x.H y.c (y.c.pairs.drop k):Nat):Int)=((g1 x.H i+nGone x.H y.c (y.c.pairs.drop (k+1)):Nat):Int)+1:=by rw[e2];omega
      have edk:=dk_gone (K:=z.H) (H:=x.H) (c:=y.c) (i:=i) hlt gp hG
      rw[decide_eq_true hG]
      repeat' (first
       |(refine k_L ?_;first|(refine k_ad ?_;refine g_ad rfl rfl ?_)|(refine k_su ?_;refine g_su rfl rfl ?_)|refine a_p rfl ?_|(refine g_c rfl (l4cut_a (z:=u) (i:=i) (k:=k) gw hwl hwl2 (by omega) (by omega) (by omega)) (fun v As' hq=>?_);obtain⟨u2,rfl,_,hu2⟩:=hq))
       |refine a_n ?_
       |(refine k_V ?_;first|refine v_seq ?_|refine v_reg ?_|refine v_ct rfl ?_)
       |refine s_n ?_)
      refine⟨k,(k,u2),by omega,?_,Pm.ent pmt,rfl,by show k≤y.c.pairs.length;omega,?_⟩
      ·rw[e3]
       (repeat(first|exact trivial|refine⟨rfl,?_⟩))
      ·show u2.H=z.H.dk x.H y.c i k
       rw[hu2,edk,←hu,lu'.walked,ewc]
       rfl
     ·have e2:nGone x.H y.c (y.c.pairs.drop k)=nGone x.H y.c (y.c.pairs.drop (k+1)):=by rw[drop_s gp,nGone_app,nGone_one,if_neg hG];omega
      have edk:=dk_keep (K:=z.H) (H:=x.H) (c:=y.c) (i:=i) gp hG
      rw[decide_eq_false hG]
      repeat' (first
       |(refine k_L ?_;first|(refine k_su ?_;refine g_su rfl rfl ?_)|refine a_p rfl ?_)
       |refine a_n ?_
       |(refine k_V ?_;first|refine v_reg ?_|refine v_skip ?_|refine v_cf rfl ?_)
       |refine s_n ?_)
      refine⟨k,(k,u),by omega,?_,Pm.ent pmt,rfl,by show k≤y.c.pairs.length;omega,?_⟩
      ·rw[e2]
       (repeat(first|exact trivial|refine⟨rfl,?_⟩))
      ·show u.H=z.H.dk x.H y.c i k
       rw[hu,edk]
   rintro t S' As' hq
   cases t with
   |ret=>exact hq.elim
   |ext i=>exact hq.elim
   |nrm=>
   obtain⟨u,hl',he',hu⟩:=hq
   refine r_nx ((u,g1 x.H (i+1)):HX×Nat) ⟨by rw[ep];exact hu,rfl⟩ (hl:=?_) (he:=he')
   rw[eg]
   obtain⟨k1,k2,k3,k4,k5,k6,_⟩:=hl'
   exact⟨k5,k6,k2,k3,k1,trivial⟩
  ·rw[decide_eq_false hh]at hgi
   rw[if_neg hh]at eg ep
   have hgi':(heldL x.H)[(i:Int).toNat]?=some false:=hgi
   repeat' (first
    |(refine k_L ?_;first|refine a_p rfl ?_|(refine k_l ?_;refine g_l rfl ?_)|(refine k_i ?_;refine g_i rfl rfl ?_))
    |refine a_n ?_
    |(refine k_V ?_;first|refine v_seq ?_|refine v_reg ?_|refine v_exit ?_|refine v_ct rfl ?_)
    |refine s_e ?_)
   exact r_ct ((z,g1 x.H i):HX×Nat) ⟨ep.symm,eg.symm⟩
 obtain⟨z0,g0⟩:=q
 obtain⟨hz0,hg0⟩:=hv
 simp only at hz0 hg0
 subst hg0
 dsimp only
 obtain⟨lk0,_,lla0,lu0,_⟩:=p1_ok x.H x.H.cells.length (Nat.le_refl _)
 rw[hl]at lk0 lla0 lu0
 rw[←hz0]at lk0
 have hz0n:z0.hdr.nc=z0.xs.length:=rfl
 have hz0l:=z0.len
 have hz0x:z0.xs.length=x.xs.length:=by rw[←hz0l,lk0.len,hl]
 repeat' (first
  |(refine k_L ?_;first|refine a_p rfl ?_|(refine k_l ?_;refine g_l rfl ?_))
  |refine a_n ?_
  |(refine k_V ?_;first|refine v_seq ?_|refine v_reg ?_)
  |refine s_n ?_)
 refine g_range x.xs.length (fun q:HX×Nat=>[(0,.v (ptr a)),(4,.v (.slice sd.a (heldL x.H).length sd.cap)),(5,.v (.int .i64 (g1 x.H x.xs.length))),(10,.v (.int .i64 q.2))]) (fun q=>hp a q.1++[slA 1 bv sd (heldL x.H)]) (fun i q=>q.1.H=p2 x.H i∧q.2=d2 x.H i) ((z0,0):HX×Nat) ⟨by show z0.H=p1 x.H x.H.cells.length;rw[hz0,hl],rfl⟩ (fun i q hi hv=>?_) (fun q hv=>?_) (hl:=by
  have:z0.hdr.nc=x.xs.length:=by omega
  rw[this]
  repeat(first|exact trivial|refine⟨rfl,?_⟩))
 ·obtain⟨z,d⟩:=q
  obtain⟨hz,hd⟩:=hv
  simp only at hz hd
  subst hd
  dsimp only
  obtain⟨lk,lc,_,_,_⟩:=p2_ok x.H i (by omega)
  rw[←hz]at lk lc
  have hzl:=z.len
  have hzn:z.hdr.nc=z.xs.length:=rfl
  have hzx:z.xs.length=x.xs.length:=by rw[←hzl,lk.len,hl]
  obtain⟨y,gy,gyc⟩:=HX.at (x:=z) (i:=i) (by omega)
  have gk:=HX.gc gy
  have hd2:=d2_le x.H i
  have hlast:y.c.last=(x.H.getC i).last:=by rw[←gk,lc i (Nat.le_refl _),hl];exact lla0 i
  have hgi:=heldL_get (H:=x.H) (j:=i) (by omega)
  have ed:d2 x.H (i+1)=if ¬Held x.H i∧y.c.last=1 then d2 x.H i+1 else d2 x.H i:=by show(if _ then _ else _)=_;rw[hlast]
  have ep:p2 x.H (i+1)=if ¬Held x.H i∧y.c.last=1 then{z.H with cells:=z.H.cells.set i {z.H.getC i with last:=2}}else z.H:=by show(if _ then _ else _)=_;rw[hlast,hz]
  have gy':z.xs[(i:Int).toNat]?=some y:=gy
  by_cases hh:Held x.H i
  ·rw[decide_eq_true hh]at hgi
   have hgi':(heldL x.H)[(i:Int).toNat]?=some true:=hgi
   rw[if_neg (fun h=>h.1 hh)]at ed ep
   repeat' (first
    |(refine k_L ?_;first|refine a_p rfl ?_|(refine k_g ?_;first|refine a_gy rfl rfl ?_|refine a_gn rfl rfl ?_|(refine a_gd rfl (fun hb=>?_) (fun hb=>?_)<;>try(exfalso;omega)))|(refine k_l ?_;refine g_l rfl ?_)|(refine k_i ?_;refine g_i rfl rfl ?_))
    |refine a_n ?_
    |(refine k_V ?_;first|refine v_seq ?_|refine v_reg ?_|refine v_skip ?_|refine v_cf rfl ?_))
   all_goals exact r_nx ((z,d2 x.H i):HX×Nat) ⟨ep.symm,ed.symm⟩
  ·rw[decide_eq_false hh]at hgi
   have hgi':(heldL x.H)[(i:Int).toNat]?=some false:=hgi
   by_cases hl1:y.c.last=1
   ·rw[if_pos ⟨hh,hl1⟩]at ed ep
    repeat' (first
     |(refine k_L ?_;first|(refine k_ad ?_;refine g_ad rfl rfl ?_)|refine a_p rfl ?_|(refine k_g ?_;first|refine a_gy rfl rfl ?_|(refine a_gd rfl (fun hb=>?_) (fun hb=>?_)<;>try(exfalso;omega)))|(refine k_l ?_;refine g_l rfl ?_)|(refine k_i ?_;refine g_i rfl rfl ?_)|(refine k_st ?_;refine g_st rfl rfl rfl rfl ?_))
     |refine a_n ?_
     |(refine k_V ?_;first|refine v_seq ?_|refine v_reg ?_|refine v_ct rfl ?_))
    generalize hZ:({z with xs:=z.xs.set i (y.s_last 2)}:HX)=Z
    have hdr:z.hdr=Z.hdr:=by rw[←hZ];simp[HX.hdr]
    have zH:Z.H=p2 x.H (i+1):=by
     rw[←hZ,ep,gk]
     unfold HX.H
     simp only[List.map_set]
     rfl
    refine r_nx ((Z,d2 x.H (i+1)):HX×Nat) ⟨zH,rfl⟩ (hl:=?_) (he:=?_)
    ·dsimp only
     rw[ed]
     repeat(first|exact trivial|refine⟨rfl,?_⟩)
    ·rw[hdr]
     dsimp only
     have e1:Z.rd=z.rd∧Z.regs=z.regs∧Z.cd=z.cd∧Z.gd=z.gd∧Z.gray=z.gray∧Z.xs=z.xs.set i (y.s_last 2):=by rw[←hZ];exact⟨rfl,rfl,rfl,rfl,rfl,rfl⟩
     show Ent _ ([hdA a Z.hdr,slA 3 wv Z.rd Z.regs,clA Z.cd Z.xs,slA 1 iv Z.gd Z.gray]++[slA 1 bv sd (heldL x.H)])
     rw[e1.1,e1.2.1,e1.2.2.1,e1.2.2.2.1,e1.2.2.2.2.1,e1.2.2.2.2.2]
     exact Pm.ent pmt
   ·rw[if_neg (fun h=>hl1 h.2)]at ed ep
    repeat' (first
     |(refine k_L ?_;first|refine a_p rfl ?_|(refine k_g ?_;first|refine a_gn rfl rfl ?_|(refine a_gd rfl (fun hb=>?_) (fun hb=>?_)<;>try(exfalso;omega)))|(refine k_l ?_;refine g_l rfl ?_)|(refine k_i ?_;refine g_i rfl rfl ?_))
     |refine a_n ?_
     |(refine k_V ?_;first|refine v_seq ?_|refine v_reg ?_|refine v_skip ?_|refine v_cf rfl ?_))
    all_goals exact r_nx ((z,d2 x.H i):HX×Nat) ⟨ep.symm,ed.symm⟩
 ·obtain⟨z,d⟩:=q
  obtain⟨hz,hd⟩:=hv
  simp only at hz hd
  subst hd
  dsimp only
  repeat' (first
   |(refine k_L ?_;refine a_p rfl ?_)
   |refine a_n ?_
   |(refine k_V ?_;first|refine v_seq ?_|refine v_reg ?_|refine v_ret ?_))
  refine fa_r (As':=hp a z) (fun _ _=>rfl) (Pm.ent pmt) ⟨z,?_,rfl,?_⟩
  ·rw[hl]
  ·unfold Heap.settleH
   rw[hz,hl]
theorem fna_rd{P:Program}{f:FuncId}{args:List Value}{Bs:List Asr}{v:Value}(h:∀m,star Bs m→FnA P f args [ro m] (fun u As=>u=v∧As=[ro m])):FnA P f args Bs (fun u As=>u=v∧As=Bs):=
 (fna_ro (q:=fun u E=>u=v∧E=[]) fun m hm=>(h m hm).mono fun u As hq=>⟨[],⟨hq.1,rfl⟩,hq.2⟩).mono fun u As hq=>by
   obtain⟨E,⟨h1,rfl⟩,h2⟩:=hq
   exact⟨h1,h2⟩
section
variable {a:Nat} {x:HX} {n:Int} {ka kb kc:Nat}
theorem do_18(h:Sound x.H)(hP:ActP ⟨18,ka,kb,kc,n⟩):FnA Tryz.prog 26 [ptr a,.agg #[.int .i64 18,.int .i64 ka,.int .i64 kb,.int .i64 kc,.int .i64 n]] (hp a x) (fun v As=>∃z:HX,v=an 0 (d2 x.H x.H.cells.length:Nat)∧As=hp a z∧z.H=x.H.settleH):=by
 refine fnA_of (fun h=>fn26 (by simp) h) ?_
 repeat' (first
  |(refine k_L ?_;first|refine a_p rfl ?_|(refine k_st ?_;refine g_sw rfl rfl rfl rfl (Nat.le_of_ble_eq_true rfl) ?_)|(refine k_al ?_;refine a_al ?_)|(refine k_bx ?_;refine a_bx rfl rfl ?_)|(refine k_c ?_;first|refine a_cq rfl (fun m hm=>actOk_t (b:=⟨18,ka,kb,kc,n⟩) hP) ?_|refine a_cq rfl (fun m hm=>l5fine_q) ?_)|(refine g_c rfl (l4settle_a (x:=x) h) (fun v As' hq=>?_);obtain⟨z,rfl,rfl,hz⟩:=hq))
  |refine a_n ?_
  |(refine k_V ?_;first|refine v_seq ?_|refine v_reg ?_|refine v_bs ?_|refine v_ret ?_|refine v_skip ?_|refine v_ct rfl ?_|refine v_cf rfl ?_)
  |refine s_r ?_
  |refine b_r ?_
  |refine sk_zero ?_
  |refine sk_succ ?_
  |refine wk_nil ?_
  |refine wk_cons ?_)
 all_goals exact fa_r (fun _ _=>rfl) (Pm.ent pmt) ⟨z,rfl,rfl,hz⟩
theorem do_19(h:Sound x.H)(hP:ActP ⟨19,ka,kb,kc,n⟩):FnA Tryz.prog 26 [ptr a,.agg #[.int .i64 19,.int .i64 ka,.int .i64 kb,.int .i64 kc,.int .i64 n]] (hp a x) (fun v As=>∃z:HX,v=an (doDue x.H ⟨19,ka,kb,kc,n⟩).code (doDue x.H ⟨19,ka,kb,kc,n⟩).num∧As=hp a z∧z.H=(doDue x.H ⟨19,ka,kb,kc,n⟩).heap):=by
 have hQ:=hP
 simp[ActP,aMost,bMost,cMost]at hQ
 refine fnA_of (fun h=>fn26 (by simp) h) ?_
 repeat' (first
  |(refine k_L ?_;first|refine a_p rfl ?_|(refine k_st ?_;refine g_sw rfl rfl rfl rfl (Nat.le_of_ble_eq_true rfl) ?_)|(refine k_al ?_;refine a_al ?_)|(refine k_bx ?_;refine a_bx rfl rfl ?_)|(refine k_c ?_;refine a_cq rfl (fun m hm=>actOk_t (b:=⟨19,ka,kb,kc,n⟩) hP) ?_)|(refine g_c rfl (l5due_a (x:=x) (b:=⟨19,ka,kb,kc,n⟩) h (by simp;omega)) (fun v As' hq=>?_);obtain⟨z,rfl,rfl,hz⟩:=hq))
  |refine a_n ?_
  |(refine k_V ?_;first|refine v_seq ?_|refine v_reg ?_|refine v_bs ?_|refine v_ret ?_|refine v_skip ?_|refine v_ct rfl ?_|refine v_cf rfl ?_)
  |refine s_r ?_
  |refine b_r ?_
  |refine sk_zero ?_
  |refine sk_succ ?_
  |refine wk_nil ?_
  |refine wk_cons ?_)
 all_goals exact fa_r (fun _ _=>rfl) (Pm.ent pmt) ⟨z,rfl,rfl,hz⟩
theorem do_20(h:Sound x.H)(hP:ActP ⟨20,ka,kb,kc,n⟩):FnA Tryz.prog 26 [ptr a,.agg #[.int .i64 20,.int .i64 ka,.int .i64 kb,.int .i64 kc,.int .i64 n]] (hp a x) (fun v As=>v=an 0 (sumT x.H (heldL x.H) x.H.cells.length)∧As=hp a x):=by
 refine fna_rd fun m hm=>?_
 have hh:Has m (hp a x):=⟨m,Mem.le_refl _,hm⟩
 refine fnA_of (fun h=>fn26 (by simp) h) ?_
 repeat' (first
  |(refine k_L ?_;first|refine a_p rfl ?_|(refine k_st ?_;refine g_sw rfl rfl rfl rfl (Nat.le_of_ble_eq_true rfl) ?_)|(refine k_al ?_;refine a_al ?_)|(refine k_bx ?_;refine a_bx rfl rfl ?_)|(refine k_c ?_;first|refine a_cq rfl (fun m hm=>actOk_t (b:=⟨20,ka,kb,kc,n⟩) hP) ?_|refine a_cq rfl (fun m hm=>l5fine_q) ?_)|(refine g_c rfl (l2holds_a (x:=x) hh h.r1 h.r2 h.r4) (fun v As' hq=>?_);obtain⟨sd,rfl,rfl⟩:=hq)|(refine g_c rfl (l2sum_a (L:=heldL x.H) hh h.r1 h.r2 (by rw[heldL_len,x.len]) (fun i c hi hc=>by obtain⟨c',hc',hst,_⟩:=held_ok h.r2 h.r4 (heldL_at hi);rw[hc]at hc';cases hc';exact hst)) (fun v As' hq=>?_);obtain⟨rfl,rfl⟩:=hq))
  |refine a_n ?_
  |(refine k_V ?_;first|refine v_seq ?_|refine v_reg ?_|refine v_bs ?_|refine v_ret ?_|refine v_skip ?_|refine v_ct rfl ?_|refine v_cf rfl ?_)
  |refine s_r ?_
  |refine b_r ?_
  |refine sk_zero ?_
  |refine sk_succ ?_
  |refine wk_nil ?_
  |refine wk_cons ?_)
 all_goals exact fa_r (As':=[ro m]) (fun _ _=>rfl) (Pm.ent pmt) ⟨by rw[x.len];rfl,rfl⟩
theorem do_21(h:Sound x.H)(hP:ActP ⟨21,ka,kb,kc,n⟩):FnA Tryz.prog 26 [ptr a,.agg #[.int .i64 21,.int .i64 ka,.int .i64 kb,.int .i64 kc,.int .i64 n]] (hp a x) (fun v As=>v=an 0 (sumT x.H (reachL x.H) x.H.cells.length)∧As=hp a x):=by
 refine fna_rd fun m hm=>?_
 have hh:Has m (hp a x):=⟨m,Mem.le_refl _,hm⟩
 refine fnA_of (fun h=>fn26 (by simp) h) ?_
 repeat' (first
  |(refine k_L ?_;first|refine a_p rfl ?_|(refine k_st ?_;refine g_sw rfl rfl rfl rfl (Nat.le_of_ble_eq_true rfl) ?_)|(refine k_al ?_;refine a_al ?_)|(refine k_bx ?_;refine a_bx rfl rfl ?_)|(refine k_c ?_;first|refine a_cq rfl (fun m hm=>actOk_t (b:=⟨21,ka,kb,kc,n⟩) hP) ?_|refine a_cq rfl (fun m hm=>l5fine_q) ?_)|(refine g_c rfl (l2live_a (x:=x) hh h.r1 h.r2 h.r4) (fun v As' hq=>?_);obtain⟨rfl,rfl⟩:=hq))
  |refine a_n ?_
  |(refine k_V ?_;first|refine v_seq ?_|refine v_reg ?_|refine v_bs ?_|refine v_ret ?_|refine v_skip ?_|refine v_ct rfl ?_|refine v_cf rfl ?_)
  |refine s_r ?_
  |refine b_r ?_
  |refine sk_zero ?_
  |refine sk_succ ?_
  |refine wk_nil ?_
  |refine wk_cons ?_)
 all_goals exact fa_r (As':=[ro m]) (fun _ _=>rfl) (Pm.ent pmt) ⟨by rw[x.len];rfl,rfl⟩
theorem do_22(h:Sound x.H)(hP:ActP ⟨22,ka,kb,kc,n⟩):FnA Tryz.prog 26 [ptr a,.agg #[.int .i64 22,.int .i64 ka,.int .i64 kb,.int .i64 kc,.int .i64 n]] (hp a x) (fun v As=>∃z:HX,v=an 0 0∧As=hp a z∧z.H=x.H.stepH kc):=by
 have hQ:=hP
 simp[ActP,aMost,bMost,cMost]at hQ
 refine fnA_of (fun h=>fn26 (by simp) h) ?_
 repeat' (first
  |(refine k_L ?_;first|refine a_p rfl ?_|(refine k_st ?_;refine g_sw rfl rfl rfl rfl (Nat.le_of_ble_eq_true rfl) ?_)|(refine k_al ?_;refine a_al ?_)|(refine k_bx ?_;refine a_bx rfl rfl ?_)|(refine k_c ?_;first|refine a_cq rfl (fun m hm=>actOk_t (b:=⟨22,ka,kb,kc,n⟩) hP) ?_|refine a_cq rfl (fun m hm=>l5fine_q) ?_)|(refine g_c rfl (l3step_a (x:=x) (n:=(kc:Int)) h (by omega)) (fun v As' hq=>?_);obtain⟨z,rfl,rfl,hz⟩:=hq))
  |refine a_n ?_
  |(refine k_V ?_;first|refine v_seq ?_|refine v_reg ?_|refine v_bs ?_|refine v_ret ?_|refine v_skip ?_|refine v_ct rfl ?_|refine v_cf rfl ?_)
  |refine sk_zero ?_
  |refine sk_succ ?_
  |refine wk_nil ?_
  |refine wk_cons ?_)
 all_goals exact fa_r (fun _ _=>rfl) (Pm.ent pmt) ⟨z,rfl,rfl,hz⟩
theorem do_23(h:Sound x.H)(hP:ActP ⟨23,ka,kb,kc,n⟩):FnA Tryz.prog 26 [ptr a,.agg #[.int .i64 23,.int .i64 ka,.int .i64 kb,.int .i64 kc,.int .i64 n]] (hp a x) (fun v As=>∃z:HX,v=an 0 0∧As=hp a z∧z.H={x.H with per:=kb,start:=kc}):=by
 refine fnA_of (fun h=>fn26 (by simp) h) ?_
 repeat' (first
  |(refine k_L ?_;first|refine a_p rfl ?_|(refine k_st ?_;first|refine g_st rfl rfl rfl rfl ?_|refine g_sw rfl rfl rfl rfl (Nat.le_of_ble_eq_true rfl) ?_)|(refine k_al ?_;refine a_al ?_)|(refine k_bx ?_;refine a_bx rfl rfl ?_)|(refine k_c ?_;first|refine a_cq rfl (fun m hm=>actOk_t (b:=⟨23,ka,kb,kc,n⟩) hP) ?_|refine a_cq rfl (fun m hm=>l5fine_q) ?_))
  |refine a_n ?_
  |(refine k_V ?_;first|refine v_seq ?_|refine v_reg ?_|refine v_bs ?_|refine v_ret ?_|refine v_skip ?_|refine v_ct rfl ?_|refine v_cf rfl ?_)
  |refine sk_zero ?_
  |refine sk_succ ?_
  |refine wk_nil ?_
  |refine wk_cons ?_)
 all_goals exact fa_r (fun _ _=>rfl) (Pm.ent (fin ({x with per:=kb,start:=kc}:HX))) ⟨_,rfl,rfl,rfl⟩
theorem do_24(h:Sound x.H)(hP:ActP ⟨24,ka,kb,kc,n⟩):FnA Tryz.prog 26 [ptr a,.agg #[.int .i64 24,.int .i64 ka,.int .i64 kb,.int .i64 kc,.int .i64 n]] (hp a x) (fun v As=>∃z:HX,v=an 0 0∧As=hp a z∧z.H=x.H.roundH):=by
 refine fnA_of (fun h=>fn26 (by simp) h) ?_
 repeat' (first
  |(refine k_L ?_;first|refine a_p rfl ?_|(refine k_st ?_;refine g_sw rfl rfl rfl rfl (Nat.le_of_ble_eq_true rfl) ?_)|(refine k_al ?_;refine a_al ?_)|(refine k_bx ?_;refine a_bx rfl rfl ?_)|(refine k_c ?_;first|refine a_cq rfl (fun m hm=>actOk_t (b:=⟨24,ka,kb,kc,n⟩) hP) ?_|refine a_cq rfl (fun m hm=>l5fine_q) ?_)|(refine g_c rfl (l3round_a (x:=x) h) (fun v As' hq=>?_);obtain⟨z,rfl,hz⟩:=hq))
  |refine a_n ?_
  |(refine k_V ?_;first|refine v_seq ?_|refine v_reg ?_|refine v_bs ?_|refine v_ret ?_|refine v_skip ?_|refine v_ct rfl ?_|refine v_cf rfl ?_)
  |refine sk_zero ?_
  |refine sk_succ ?_
  |refine wk_nil ?_
  |refine wk_cons ?_)
 all_goals exact fa_r (fun _ _=>rfl) (Pm.ent pmt) ⟨z,rfl,rfl,hz⟩
end
end Go.Proofs.YtpleoapljeffiaaGreatDoor.E
