/- A part of the proof. Conditions: none. -/
import Derived.Test.YtcjmodomfilagaaGreatKI21
import Derived.Test.YtcjmodomfilagaaGreatJfSettles
set_option linter.unusedVariables false
set_option linter.unusedSimpArgs false
set_option maxHeartbeats 8000000
set_option maxRecDepth 100000
namespace Go.Proofs.YtcjmodomfilagaaGreat.E
open Go
open Classical
theorem setN_r:∀(k:Nat) (H:Heap),setN (k+1) H=(setN k H).settleH
 |0,_=>rfl
 |k+1,H=>setN_r k H.settleH
theorem fnSettles_q{ca:Option Addr}{cn cc:Nat}{m:Mem}(hc:Cod m ca cn):Qt Tryz.prog 3 [.slice ca cn cc] m (.bool true):=by
 have hbd:=hc.bd
 refine qt_of (fnA_of (fun h=>fn3 (by simp) h) ?_)
 by_cases hn:(cn:Int)>1048576
 ·repeat' (first
   |(refine k_L ?_;refine a_p rfl ?_)
   |refine a_n ?_
   |(refine k_V ?_;first|refine v_rv ?_|refine v_seq ?_|refine v_reg ?_|(refine v_cd rfl (fun hb=>?_) (fun hb=>?_)<;>try(exfalso;omega)))
   |refine s_r ?_)
  exact fa_q (by simp) (fun _ _=>rfl) rfl
 repeat' (first
  |(refine k_L ?_;first|refine a_p rfl ?_|(refine k_st ?_;refine g_sw rfl rfl rfl rfl (Nat.le_of_ble_eq_true rfl) ?_)|(refine k_al ?_;refine a_al ?_)|(refine g_c rfl (given_a hc) (fun v As' hq=>?_);obtain⟨h,rfl,hS,rfl⟩:=hq;refine l_fix (fun m1 hm1=>?_);have hh:Has m1 h.body:=sep_has hm1 pmt;have l1:m.le m1:=ro_of hm1 pmt))
  |refine a_n ?_
  |(refine k_V ?_;first|refine v_seq ?_|refine v_reg ?_|refine v_skip ?_|(refine v_cd rfl (fun hb=>?_) (fun hb=>?_)<;>try(exfalso;omega)))
  |refine sk_zero ?_
  |refine sk_succ ?_
  |refine wk_nil ?_
  |refine wk_cons ?_)
 have hlen:=h.len
 have e4:h.hdr.nc=h.xs.length:=rfl
 have elh:(heldL h.H).length=h.xs.length:=by unfold heldL;rw[List.length_map,List.length_range,←hlen]
 have elr:(reachL h.H).length=h.xs.length:=by rw[reachL_len,hlen]
 have ha:FnA Tryz.prog 7 [h.v] [ro m1] (fun v As=>∃sd:D,v=.slice sd.a (heldL h.H).length sd.cap∧As=[slA 1 bv sd (heldL h.H),ro m1]):=(implHolds_a hh).mono fun v As ⟨E,⟨sd,h1,h2⟩,h3⟩=>⟨sd,by rw[h1,holds_s hS],by rw[h3,h2,holds_s hS];rfl⟩
 refine g_c rfl ha (fun v As' hq=>?_)
 obtain⟨sd,rfl,rfl⟩:=hq
 refine l_fix (fun m2 hm2=>?_)
 have l2:m1.le m2:=ro_of hm2 pmt
 have hd2:Has m2 [slA 1 bv sd (heldL h.H)]:=sep_has hm2 pmt
 repeat' (first
  |(refine k_L ?_;refine a_p rfl ?_)
  |refine a_n ?_
  |(refine k_V ?_;first|refine v_seq ?_|refine v_reg ?_))
 have ra:FnA Tryz.prog 8 [h.v] [ro m2] (fun v As=>∃sd:D,v=.slice sd.a (reachL h.H).length sd.cap∧As=[slA 1 bv sd (reachL h.H),ro m2]):=(implReach_a (hh.le l2)).mono fun v As ⟨E,⟨sd,h1,h2⟩,h3⟩=>⟨sd,by rw[h1,reach_s hS],by rw[h3,h2,reach_s hS];rfl⟩
 refine g_c rfl ra (fun v As' hq=>?_)
 obtain⟨se,rfl,rfl⟩:=hq
 refine l_fix (fun m3 hm3=>?_)
 have l3:m2.le m3:=ro_of hm3 pmt
 have hr3:Has m3 [slA 1 bv se (reachL h.H)]:=sep_has hm3 pmt
 have hd3:=hd2.le l3
 have hh3:=hh.le (Mem.le_trans l2 l3)
 obtain⟨x1,x2,x3⟩:=has_1 hh
 have hbx:h.xs.length≤140737488355328:=by obtain⟨a,l,s⟩:=x2;exact(kn_h kb_cl).out a s
 repeat' (first
  |(refine k_L ?_;first|refine a_p rfl ?_|(refine k_g ?_;first|refine a_gy rfl rfl ?_|(refine a_gne rfl (fun hb=>?_) (fun hb=>?_)<;>try(exfalso;omega))))
  |refine a_n ?_
  |(refine k_V ?_;first|refine v_seq ?_|refine v_reg ?_|refine v_skip ?_|(refine v_cn rfl (fun hb=>?_) (fun hb=>?_)<;>try(exfalso;omega)))
  |refine s_n ?_)
 refine g_range (heldL h.H).length (fun _:Unit=>[(3,.box h.row),(4,.v (.slice sd.a (heldL h.H).length sd.cap)),(5,.v (.slice se.a (reachL h.H).length se.cap))]) (fun _=>[ro m3]) (fun _ _=>True) () trivial (fun i _ hi _=>?_) (fun _ _=>?_)
 ·obtain⟨u,gu,gc⟩:=HX.at (x:=h) (i:=i) (by omega)
  obtain⟨bh,gh⟩:∃b,(heldL h.H)[i]?=some b:=⟨_,List.getElem?_eq_getElem hi⟩
  obtain⟨br,gr⟩:∃b,(reachL h.H)[i]?=some b:=⟨_,List.getElem?_eq_getElem (by omega)⟩
  have hr:bh=true→br=true:=fun e=>by
   subst e
   have:=(reachL_iff (by omega)).2 (held_reached hS ((heldL_iff (by omega)).1 gh))
   rw[gr]at this;exact Option.some.inj this
  cases bh with
  |false=>
   repeat' (first
    |(refine k_L ?_;first|refine a_p rfl ?_|(refine k_g ?_;refine a_gn rfl rfl ?_)|(refine k_l ?_;refine a_l rfl (by exact rd_h (rd_ro hd3 (rd_h (rd_sl (j:=0) (fun _=>rfl) gh rfl)))) ?_)|(refine a_i (e:=sd) rfl rfl (kn_h (kn_ro hd3 (kn_h (bs_sl gh)))) (by omega) ?_))
    |refine a_n ?_
    |(refine k_V ?_;first|refine v_seq ?_|refine v_reg ?_|refine v_skip ?_|refine v_cf rfl ?_))
   all_goals exact r_nx () trivial
  |true=>
   have e:=hr rfl
   subst e
   repeat' (first
    |(refine k_L ?_;first|refine a_p rfl ?_|(refine k_g ?_;refine a_gy rfl rfl ?_)|(refine k_l ?_;first|refine a_l rfl (by exact rd_h (rd_ro hd3 (rd_h (rd_sl (j:=0) (fun _=>rfl) gh rfl)))) ?_|refine a_l rfl (by exact rd_h (rd_ro hr3 (rd_h (rd_sl (j:=0) (fun _=>rfl) gr rfl)))) ?_)|(refine a_i (e:=sd) rfl rfl (kn_h (kn_ro hd3 (kn_h (bs_sl gh)))) (by omega) ?_)|(refine a_i (e:=se) rfl rfl (kn_h (kn_ro hr3 (kn_h (bs_sl gr)))) (by omega) ?_))
    |refine a_n ?_
    |(refine k_V ?_;first|refine v_seq ?_|refine v_reg ?_|refine v_skip ?_|refine v_cf rfl ?_))
   all_goals exact r_nx () trivial
 obtain⟨q1,q2,q3⟩:=settle_s hS
 have sS:=settle_sound hS
 have l13:=Mem.le_trans l2 l3
 repeat' (first
  |(refine k_L ?_;refine a_p rfl ?_)
  |refine a_n ?_
  |(refine k_V ?_;first|refine v_seq ?_|refine v_reg ?_))
 refine g_c rfl (implSettle_a (x:=h) hh3) (fun v As' hq=>?_)
 obtain⟨_,⟨x,rfl,hx,rfl⟩,rfl⟩:=hq
 rw[q1]at hx
 rw[q2,q3]
 refine l_fix (fun m4 hm4=>?_)
 have l4:m3.le m4:=ro_of hm4 pmt
 have hxb:Has m4 x.body:=sep_has hm4 pmt
 repeat' (first
  |(refine k_L ?_;first|refine a_p rfl ?_|(refine k_st ?_;refine g_sw rfl rfl rfl rfl (Nat.le_of_ble_eq_true rfl) ?_)|(refine k_al ?_;refine a_al ?_))
  |refine a_n ?_
  |(refine k_V ?_;first|refine v_seq ?_|refine v_reg ?_)
  |refine sk_zero ?_
  |refine sk_succ ?_
  |refine wk_nil ?_
  |refine wk_cons ?_)
 refine g_c rfl (specSettle_a (x:=h) (hh3.le l4)) (fun v As' hq=>?_)
 obtain⟨_,⟨w,rfl,hw,rfl⟩,rfl⟩:=hq
 rw[q1]at hw
 rw[q2,q3]
 refine l_fix (fun m5 hm5=>?_)
 have l5:m4.le m5:=ro_of hm5 pmt
 have hwb:Has m5 w.body:=sep_has hm5 pmt
 have xu:x.hdr.used=h.hdr.used-(goneN h.H:Int):=by
  have:x.hdr.used=x.H.used:=rfl
  rw[this,hx];exact(p2_ok h.H _ (Nat.le_refl _)).2.2.1
 have hus:=hS.r3
 have hnn:=pairsN_nonneg h.H.cells
 have hun:=pairsN_units hS.r2
 have hrm:=hS.r1.room
 have hcl:=hS.r1.cells
 have xus:=sS.r3
 have xnn:=pairsN_nonneg h.H.settleH.cells
 have xun:=pairsN_units sS.r2
 unfold R3 at hus xus
 have eu:h.hdr.used=h.H.used:=rfl
 have eux:x.hdr.used=h.H.settleH.used:=by rw[←hx];rfl
 have l35:=Mem.le_trans l4 l5
 have hh5:=hh3.le l35
 have hx5:=hxb.le l5
 repeat' (first
  |(refine k_L ?_;first|(refine k_st ?_;refine g_sw rfl rfl rfl rfl (Nat.le_of_ble_eq_true rfl) ?_)|(refine k_al ?_;refine a_al ?_))
  |refine a_n ?_
  |refine s_n ?_
  |refine sk_zero ?_
  |refine sk_succ ?_
  |refine wk_nil ?_
  |refine wk_cons ?_)
 refine g_cut (fun _:Unit=>[(3,.box h.row),(7,.box (x.row++[.int .i64 (goneN h.H),.int .i64 (dueN h.H)]))]) (fun _=>[ro m5]) (fun _=>True) ?_ (fun _ _=>?_)
 ·repeat' (first
   |(refine k_L ?_;first|(refine k_su ?_;refine g_su rfl rfl ?_)|refine a_p rfl ?_|(refine k_g ?_;first|refine a_gy rfl rfl ?_|(refine a_gne rfl (fun hb=>?_) (fun hb=>?_)<;>try(exfalso;omega)))|(refine k_c ?_;refine a_cq rfl (fun m hm=>wHeap_t (x:=x) (y:=w) (hx5.le (ro_of hm pmt)) (hwb.le (ro_of hm pmt)) (by rw[hx,hw])) ?_))
   |refine a_n ?_
   |(refine k_V ?_;first|refine v_seq ?_|refine v_reg ?_|refine v_skip ?_|(refine v_cn rfl (fun hb=>?_) (fun hb=>?_)<;>try(exfalso;omega)))
   |refine s_n ?_)
  exact j_i () trivial
 have c1:=counted_s hS
 have c2:x.H.counted=sumT h.H.settleH (heldL h.H.settleH) h.H.settleH.cells.length:=by rw[hx];exact counted_s sS
 have b1:=sumT_le hS.r2 (heldL h.H) h.H.cells.length
 have b2:=sumT_le sS.r2 (heldL h.H.settleH) h.H.settleH.cells.length
 have b3:h.H.settleH.cells.length=h.H.cells.length:=(p2_ok h.H _ (Nat.le_refl _)).1.len
 refine g_cut (fun _:Unit=>[(3,.box h.row),(7,.box (x.row++[.int .i64 (goneN h.H),.int .i64 (dueN h.H)]))]) (fun _=>[ro m5]) (fun _=>True) ?_ (fun _ _=>?_)
 ·by_cases e:(dueN h.H:Int)=0
  ·have cl:=counted_less hS (by omega)
   rw[←c1,←c2]at cl
   rw[←c1]at b1
   rw[←c2]at b2
   repeat' (first
    |(refine k_L ?_;first|(refine k_su ?_;refine g_su rfl rfl ?_)|refine a_p rfl ?_|(refine k_g ?_;first|refine a_gy rfl rfl ?_|(refine a_gd rfl (fun hb=>?_) (fun hb=>?_)<;>try(exfalso;omega)))|(refine k_q ?_;first|refine a_q rfl (fun m hm=>implCounted_q (x:=x) (hx5.le (ro_of hm pmt))) ?_|refine a_q rfl (fun m hm=>implCounted_q (x:=h) (hh5.le (ro_of hm pmt))) ?_|refine a_q rfl (fun m hm=>implNextDue_q (x:=x) (hx5.le (ro_of hm pmt))) ?_|refine a_q rfl (fun m hm=>specNextDue_q (x:=x) (hx5.le (ro_of hm pmt))) ?_))
    |refine a_n ?_
    |(refine k_V ?_;first|refine v_seq ?_|refine v_dreg ?_|refine v_skip ?_|(refine v_cn rfl (fun hb=>?_) (fun hb=>?_)<;>try(exfalso;omega)))
    |refine s_n ?_)
   all_goals exact j_i () trivial
  ·repeat' (first
    |(refine k_L ?_;first|refine a_p rfl ?_|(refine k_g ?_;first|refine a_gy rfl rfl ?_|refine a_gn rfl rfl ?_|(refine a_gd rfl (fun hb=>?_) (fun hb=>?_)<;>try(exfalso;omega)))|(refine k_q ?_;first|refine a_q rfl (fun m hm=>implNextDue_q (x:=x) (hx5.le (ro_of hm pmt))) ?_|refine a_q rfl (fun m hm=>specNextDue_q (x:=x) (hx5.le (ro_of hm pmt))) ?_))
    |refine a_n ?_
    |(refine k_V ?_;first|refine v_seq ?_|refine v_dreg ?_|refine v_skip ?_|(refine v_cn rfl (fun hb=>?_) (fun hb=>?_)<;>try(exfalso;omega)))
    |refine s_n ?_)
   all_goals exact j_i () trivial
 obtain⟨K,hK,k1,k2,k3⟩:=rest_ex (h.H.used).toNat (H:=h.H) (by have:=msr_used hS;omega)
 repeat' (first
  |(refine k_L ?_;refine a_p rfl ?_)
  |refine a_n ?_
  |(refine k_V ?_;first|refine v_seq ?_|refine v_reg ?_)
  |refine s_n ?_)
 refine v_blk ?_
 refine v_loop (fun q:Nat×HX×Mem=>[(7,.box (q.2.1.row++[.int .i64 (goneN (setN q.1 h.H)),.int .i64 (dueN (setN q.1 h.H))])),(9,.v (.int .i64 (h.H.used-(q.1:Int))))]) (fun q=>[ro q.2.2]) (fun k q=>k=K-q.1∧q.1≤K∧m.le q.2.2∧Has q.2.2 q.2.1.body∧q.2.1.H=setN (q.1+1) h.H) ⟨_,(0,x,m5),⟨rfl,congrArg (fun i=>SV.v (Value.int .i64 i)) (show h.hdr.used=h.H.used-((0:Nat):Int) by omega),trivial⟩,Ent.refl _,rfl,Nat.zero_le _,Mem.le_trans l1 (Mem.le_trans l13 l35),hx5,hx⟩ ?_
 rintro k ⟨j,y,m6⟩ ⟨hk0,hj,hm6,hy,ye⟩
 dsimp only at hk0 hj hm6 hy ye⊢
 have yS:Sound y.H:=by rw[ye];exact setN_sound _ hS
 obtain⟨y1,y2,y3⟩:=settle_s yS
 by_cases ej:j=K
 ·subst ej
  have g1:((goneN (setN j h.H):Nat):Int)=0:=by omega
  have g2:((dueN (setN j h.H):Nat):Int)=0:=by omega
  repeat' (first
   |(refine k_L ?_;first|refine a_p rfl ?_|(refine k_g ?_;first|refine a_gy rfl rfl ?_|(refine a_gd rfl (fun hb=>?_) (fun hb=>?_)<;>try(exfalso;omega)))|(refine k_c ?_;refine a_cq rfl (fun m hm=>implHeapOk_q (x:=y) (hy.le (ro_of hm pmt))) ?_))
   |refine a_n ?_
   |(refine k_V ?_;first|refine v_seq ?_|refine v_reg ?_|refine v_bs ?_|refine v_ret ?_|refine v_skip ?_|(refine v_cd rfl (fun hb=>?_) (fun hb=>?_)<;>try(exfalso;omega)))
   |refine s_r ?_
   |refine b_r ?_)
  exact fa_r (As':=[ro m]) (fun _ _=>rfl) (ent_ro hm6) ⟨by rw[(okH_sound y.H).2 yS];rfl,rfl⟩
 have nk:=k3 j (by omega)
 have e1:(goneN (setN (j+1) h.H):Int)=goneN y.H:=by rw[ye]
 have e2:(dueN (setN (j+1) h.H):Int)=dueN y.H:=by rw[ye]
 have nx:∀{S:St} {z:HX} {m7 m8:Mem},m6.le m7→m7.le m8→z.H=y.H.settleH→Has m8 z.body→True:=fun _ _ _ _=>trivial
 by_cases g1:((goneN (setN j h.H):Nat):Int)=0
 ·have g2:¬((dueN (setN j h.H):Nat):Int)=0:=fun e=>nk ⟨by omega,by omega⟩
  repeat' (first
   |(refine k_L ?_;first|(refine k_su ?_;refine g_su rfl rfl ?_)|refine a_p rfl ?_|(refine k_g ?_;first|refine a_gy rfl rfl ?_|(refine a_gd rfl (fun hb=>?_) (fun hb=>?_)<;>try(exfalso;omega)))|(refine k_st ?_;refine g_sw rfl rfl rfl rfl (Nat.le_of_ble_eq_true rfl) ?_)|(refine g_c rfl (implSettle_a (x:=y) hy) (fun v As' hq=>?_);obtain⟨_,⟨z,rfl,hz,rfl⟩,rfl⟩:=hq;rw[y1]at hz;rw[y2,y3];refine l_fix (fun m7 hm7=>?_);have l7:m6.le m7:=ro_of hm7 pmt;have hz7:Has m7 z.body:=sep_has hm7 pmt))
   |refine a_n ?_
   |(refine k_V ?_;first|refine v_seq ?_|refine v_reg ?_|refine v_bs ?_|refine v_skip ?_|(refine v_cd rfl (fun hb=>?_) (fun hb=>?_)<;>try(exfalso;omega)))
   |refine s_n ?_
   |refine sk_zero ?_
   |refine sk_succ ?_
   |refine wk_nil ?_
   |refine wk_cons ?_)
  exact⟨K-(j+1),(j+1,z,m7),by omega,⟨by dsimp only;rw[e1,e2];rfl,congrArg (fun i=>SV.v (Value.int .i64 i)) (show h.H.used-(j:Int)-1=h.H.used-((j+1:Nat):Int) by omega),trivial⟩,Ent.refl _,rfl,by dsimp only;omega,Mem.le_trans hm6 l7,hz7,by dsimp only;rw[hz,ye,←setN_r]⟩
 ·repeat' (first
   |(refine k_L ?_;first|(refine k_su ?_;refine g_su rfl rfl ?_)|refine a_p rfl ?_|(refine k_g ?_;first|refine a_gn rfl rfl ?_|(refine a_gd rfl (fun hb=>?_) (fun hb=>?_)<;>try(exfalso;omega)))|(refine k_st ?_;refine g_sw rfl rfl rfl rfl (Nat.le_of_ble_eq_true rfl) ?_)|(refine g_c rfl (implSettle_a (x:=y) hy) (fun v As' hq=>?_);obtain⟨_,⟨z,rfl,hz,rfl⟩,rfl⟩:=hq;rw[y1]at hz;rw[y2,y3];refine l_fix (fun m7 hm7=>?_);have l7:m6.le m7:=ro_of hm7 pmt;have hz7:Has m7 z.body:=sep_has hm7 pmt))
   |refine a_n ?_
   |(refine k_V ?_;first|refine v_seq ?_|refine v_reg ?_|refine v_bs ?_|refine v_skip ?_|refine v_cf rfl ?_|(refine v_cd rfl (fun hb=>?_) (fun hb=>?_)<;>try(exfalso;omega)))
   |refine s_n ?_
   |refine sk_zero ?_
   |refine sk_succ ?_
   |refine wk_nil ?_
   |refine wk_cons ?_)
  exact⟨K-(j+1),(j+1,z,m7),by omega,⟨by dsimp only;rw[e1,e2];rfl,congrArg (fun i=>SV.v (Value.int .i64 i)) (show h.H.used-(j:Int)-1=h.H.used-((j+1:Nat):Int) by omega),trivial⟩,Ent.refl _,rfl,by dsimp only;omega,Mem.le_trans hm6 l7,hz7,by dsimp only;rw[hz,ye,←setN_r]⟩
end Go.Proofs.YtcjmodomfilagaaGreat.E
namespace Go.Proofs.YtcjmodomfilagaaGreat.E
open Go Go.ChangeShapes Go.WideShapes Go.ChangeAt Go.RowKit
theorem liftedSettles(os:Os)(started:os.Started)(H:Type)(enc:TypeId×Value→H):
 ReturnsInHanded {} Tryz.checked os 3 .any (Rows.fnSettlesSpec.pre6 enc Tryz.prog Tryz.f3 Rows.fnSettlesRow.domain false) (Rows.fnSettlesSpec.post enc Tryz.prog Tryz.f3 false true false false):=by
 refine returnsInHanded_of_change_sized (C:=Tryz.checked) ownknob started (by kernel_rfl) Tryz.func3
  (ChangeSpec.witness6 (enc:=enc) (C:=Tryz.checked) false ⟨#[],#[.slice none 0 0],[]⟩ 8 (by kernel_rfl) (by kernel_rfl) (by kernel_rfl) (by kernel_rfl)) ?_
 intro W base args ds gs before hval0 hW hcnd hsz0 _
 have hval:∀(j:Nat) t v,Tryz.f3.params[j]?=some t→args[j]?=some v→Value.okWide Tryz.prog W .any base t v:=hval0
 have hW':=hW
 obtain⟨p,q,hA0,hV,rfl,hfz,hnd⟩:=hW
 have hA:DataW.TrodAll enc Tryz.prog W 0 (fun _=>true) true [22] args.toList ds p:=hA0
 obtain⟨v0,d0,rfl,rfl,h0⟩:=trodAll_one hA
 obtain⟨rfl,rfl⟩:=trodVars_none hV
 obtain⟨sa,n,cap,rfl⟩:=okWide_slice und_bytes (hval 0 22 v0 rfl rfl)
 clear hA0 hval0 hsz0
 have h0k:=h0
 obtain⟨fuel,h0'⟩:=h0
 have hc:=open_bytes h0'
 have hlt:∀x∈p,x.block<W.heap.size:=fun x hx=>by simpa using hW'.lt x (by simp[hx])
 have hq:Fn Tryz.prog 3 [.slice sa n cap] (memOf W) (fun v M'=>v=.bool true∧(memOf W).le M'):=(fnSettles_q hc).mono fun v M' ⟨h1,h2⟩=>⟨h1,by rw[h2];exact Mem.le_refl _⟩
 refine(row_of hq).mono fun e W' ⟨he,bel⟩=>?_
 subst he
 exact⟨_,rfl,_,_,_,[],_,[],hW',trodAll_mk1 (shut_bool und_bool _),trodAll_mk1 (Below.trod laid (by kernel_rfl) (of_decide_eq_true (by kernel_rfl)) h0k bel hlt),rfl,bel.frame _,fun h=>by cases h⟩
end Go.Proofs.YtcjmodomfilagaaGreat.E
namespace Go.Proofs.YtcjmodomfilagaaGreat
open Go.ChangeShapes Go.WideShapes Go.ChangeAt Go.RowKit
theorem fnSettles_holds:Rows.FnSettlesSaid:=
 OpenClaim.holds_of_wide 3 Tryz.f3 rfl rfl rfl rfl rfl rfl rfl ⟨rfl,rfl,rfl,rfl,rfl⟩ rfl rfl rfl rfl rfl (by kernel_rfl) Tryz.func3 jfSettles
  (of_decide_eq_true (by kernel_rfl)) (by unfold Func.isWrapper;first|(rw[if_pos (by decide+kernel)];kernel_rfl)|(rw[if_neg (by decide+kernel)];exact⟨rfl,rfl⟩))
  (fun os started H enc _=>E.liftedSettles os started H enc)
end Go.Proofs.YtcjmodomfilagaaGreat
