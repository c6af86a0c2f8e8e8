/- A part of the proof. Conditions: none. -/
import Derived.Test.YtcjmodomfilagaaGreatKI17
set_option linter.unusedVariables false
set_option linter.unusedSimpArgs false
set_option maxHeartbeats 8000000
set_option maxRecDepth 100000
namespace Go.Proofs.YtcjmodomfilagaaGreat.E
open Go
open Classical
theorem like_us{H K:Heap}(h:Like H K)(u s:Int):Like H {K with used:=u,sub:=s}:=⟨h.len,h.cell,h.regs,h.gray,h.phase,h.hand,h.room,h.born,h.per,h.start,h.rounds,h.forced⟩
theorem keyw_no{c:Cell}(h:IntKind.i64.wrap (BitVec.ofInt IntKind.i64.bits c.weak&&&BitVec.ofInt IntKind.i64.bits 1).toNat≠0):¬KeyW c:=h
theorem keyw_yes{c:Cell}(h:IntKind.i64.wrap (BitVec.ofInt IntKind.i64.bits c.weak&&&BitVec.ofInt IntKind.i64.bits 1).toNat=0):KeyW c:=h
theorem valw_no{c:Cell}(h:IntKind.i64.wrap (BitVec.ofInt IntKind.i64.bits c.weak&&&BitVec.ofInt IntKind.i64.bits 2).toNat≠0):¬ValW c:=h
theorem valw_yes{c:Cell}(h:IntKind.i64.wrap (BitVec.ofInt IntKind.i64.bits c.weak&&&BitVec.ofInt IntKind.i64.bits 2).toNat=0):ValW c:=h
abbrev stR(H:Heap)(a b1 b2:Nat)(sd:D):List Asr:=[bx b1 [ptr a],bx b2 [.slice sd.a (heldL H).length sd.cap],slA 1 bv sd (heldL H)]
abbrev lostV(b1 b2:Nat):Value:=.func (.func 67) #[] #[ptr b1,ptr b2]
noncomputable def HX.ck(z:HX)(H:Heap)(c:Cell)(i k:Nat):HX:={z with used:=z.used-nGone H c (c.pairs.take k),sub:=if H.walkedI=i then z.sub-nGone H c (c.pairs.take (min k z.sub.toNat))else z.sub}
theorem ck_0(z:HX)(H:Heap)(c:Cell)(i:Nat):z.ck H c i 0=z:=by
 unfold HX.ck
 have e:nGone H c (c.pairs.take 0)=0:=rfl
 rw[Nat.zero_min,e]
 simp
theorem take_s{c:Cell}{k:Nat}{p:Pair}(hp:c.pairs[k]?=some p):c.pairs.take (k+1)=c.pairs.take k++[p]:=by rw[List.take_add_one,hp];rfl
theorem ck_keep{z:HX}{H:Heap}{c:Cell}{i k:Nat}{p:Pair}(hp:c.pairs[k]?=some p)(hg:¬GoneP H c p):z.ck H c i (k+1)=z.ck H c i k:=by
 unfold HX.ck
 have e1:nGone H c (c.pairs.take (k+1))=nGone H c (c.pairs.take k):=by rw[take_s hp,nGone_app,nGone_one,if_neg hg];rfl
 have e2:nGone H c (c.pairs.take (min (k+1) z.sub.toNat))=nGone H c (c.pairs.take (min k z.sub.toNat)):=by
  by_cases h:k<z.sub.toNat
  ·rw[Nat.min_eq_left (by omega),Nat.min_eq_left (by omega),e1]
  ·rw[Nat.min_eq_right (by omega),Nat.min_eq_right (by omega)]
 rw[e1,e2]
theorem ck_gone{z:HX}{H:Heap}{c:Cell}{i k:Nat}{p:Pair}(hp:c.pairs[k]?=some p)(hg:GoneP H c p):z.ck H c i (k+1)={z.ck H c i k with used:=(z.ck H c i k).used-1,sub:=if H.walkedI=i∧(k:Int)<z.sub then(z.ck H c i k).sub-1 else(z.ck H c i k).sub}:=by
 have e1:nGone H c (c.pairs.take (k+1))=nGone H c (c.pairs.take k)+1:=by rw[take_s hp,nGone_app,nGone_one,if_pos hg]
 have hu:(z.ck H c i (k+1)).used=(z.ck H c i k).used-1:=by
  show z.used-(nGone H c (c.pairs.take (k+1)):Nat)=z.used-(nGone H c (c.pairs.take k):Nat)-1
  rw[e1];omega
 have hs:(z.ck H c i (k+1)).sub=if H.walkedI=i∧(k:Int)<z.sub then(z.ck H c i k).sub-1 else(z.ck H c i k).sub:=by
  show(if H.walkedI=i then z.sub-(nGone H c (c.pairs.take (min (k+1) z.sub.toNat)):Nat)else z.sub)=if H.walkedI=i∧(k:Int)<z.sub then(if H.walkedI=i then z.sub-(nGone H c (c.pairs.take (min k z.sub.toNat)):Nat)else z.sub)-1 else(if H.walkedI=i then z.sub-(nGone H c (c.pairs.take (min k z.sub.toNat)):Nat)else z.sub)
  by_cases hw:H.walkedI=i
  ·by_cases h:(k:Int)<z.sub
   ·have m1:min (k+1) z.sub.toNat=k+1:=by omega
    have m2:min k z.sub.toNat=k:=by omega
    rw[m1,m2,e1]
    simp only[hw,h,and_self,if_true]
    omega
   ·have m1:min (k+1) z.sub.toNat=z.sub.toNat:=by omega
    have m2:min k z.sub.toNat=z.sub.toNat:=by omega
    rw[m1,m2]
    simp only[hw,h,and_false,if_true,if_false]
  ·simp only[hw,false_and,if_false]
 show({z with used:=(z.ck H c i (k+1)).used,sub:=(z.ck H c i (k+1)).sub}:HX)=_
 rw[hu,hs]
 rfl
theorem like_ck{H:Heap}{z:HX}{c:Cell}{i k:Nat}(h:Like H z.H):Like H (z.ck H c i k).H:=like_us h _ _
theorem settle_a{a:Nat}{x:HX}(h:Sound x.H):FnA Tryz.prog 29 [ptr a] (hp a x) (fun v As=>∃z:HX,v=.tuple #[.int .i64 (g1 x.H x.H.cells.length:Nat),.int .i64 (d2 x.H x.H.cells.length:Nat)]∧As=hp a z∧z.H=x.H.settleH):=by
 obtain⟨q1,q2,q3⟩:=sound_gray h
 have hl:=x.len
 have hnc:x.hdr.nc=x.xs.length:=rfl
 have h2:=h.r2
 have hrm:=h.r1.room
 have hsb:=h.r1.sub
 have hus:=h.r3
 have hun:=pairsN_units h2
 have hpn:=pairsN_nonneg x.H.cells
 unfold R3 at hus
 have hln:=heldL_len x.H
 refine fnA_of (fun h=>fn29 (by simp) h) ?_
 repeat' (first
  |(refine k_L ?_;first|refine a_p rfl ?_|(refine k_l ?_;refine g_l rfl ?_)|(refine a_nw (vs:=[ptr a]) rfl rfl (fun b1=>?_))|(refine g_c rfl (fna_ro (q:=fun v E=>∃sd:D,v=.slice sd.a (heldL x.H).length sd.cap∧E=[slA 1 bv sd (heldL x.H)]) (Bs:=hp a x) (fun m hm=>(holds_a (has_star hm) h.r1 h.r2 h.r4).mono (fun v As ⟨sd,e1,e2⟩=>⟨_,⟨sd,e1,rfl⟩,e2⟩))) (fun v As' hq=>?_);obtain⟨_,⟨sd,rfl,rfl⟩,rfl⟩:=hq))
  |refine a_n ?_
  |(refine k_V ?_;first|refine v_seq ?_|refine v_reg ?_))
 refine a_nz (fun b2=>?_)
 repeat' (first
  |(refine k_L ?_;first|refine a_p rfl ?_|(refine k_l ?_;refine g_l rfl ?_)|(refine g_sb rfl rfl rfl rfl ?_))
  |refine a_n ?_
  |(refine k_V ?_;first|refine v_seq ?_|refine v_reg ?_)
  |refine s_n ?_)
 refine g_range x.xs.length (fun q:HX×Nat=>[(1,.v (ptr b1)),(2,.v (.int .i64 q.2)),(3,.v (.int .i64 0)),(4,.v (ptr b2)),(5,.v (lostV b1 b2))]) (fun q=>hp a q.1++stR x.H a b1 b2 sd) (fun i q=>q.1.H=p1 x.H i∧q.2=g1 x.H i) ((x,0):HX×Nat) ⟨rfl,rfl⟩ (fun i q hi hv=>?_) (fun q hv=>?_)
 ·obtain⟨z,g⟩:=q
  obtain⟨hz,hg⟩:=hv
  simp only at hz hg
  subst hg
  dsimp only
  obtain⟨lk,lc,lla,lu,ls1,ls2⟩:=p1_ok x.H i (by omega)
  rw[←hz]at lk lc lla lu ls1 ls2
  have hzl:=z.len
  have hzn:z.hdr.nc=z.xs.length:=rfl
  have hzx:z.xs.length=x.xs.length:=by rw[←hzl,lk.len,hl]
  obtain⟨y,gy,gyc⟩:=HX.at (x:=z) (i:=i) (by omega)
  have gk:=HX.gc gy
  have gx:x.H.getC i=y.c:=by rw[←lc i (Nat.le_refl _)];exact gk
  have gxs:=getL_some (cs:=x.H.cells) (j:=i) (by omega) (by omega)
  rw[Int.toNat_natCast,←getC_L,gx]at gxs
  have hpl:=h2.pl (List.mem_of_getElem? gxs)
  have hg1:=g1_le h2 i
  have hzu:z.used=x.H.used-g1 x.H i:=lu
  have hzs1:x.H.sub-g1 x.H i≤z.sub:=ls1
  have hzs2:z.sub≤x.H.sub:=ls2
  have hgi:=heldL_get (H:=x.H) (j:=i) (by omega)
  have eg:g1 x.H (i+1)=if Held x.H i then g1 x.H i+nGone x.H y.c y.c.pairs else g1 x.H i:=by show(if _ then _ else _)=_;rw[gx]
  have ep:p1 x.H (i+1)=if Held x.H i then x.H.cutC z.H i else z.H:=by show(if _ then _ else _)=_;rw[hz]
  have gy':z.xs[(i:Int).toNat]?=some y:=gy
  by_cases hh:Held x.H i
  ·rw[decide_eq_true hh]at hgi
   rw[if_pos hh]at eg ep
   have hgi':(heldL x.H)[(i:Int).toNat]?=some true:=hgi
   repeat' (first
    |(refine k_L ?_;first|refine a_p rfl ?_|(refine k_l ?_;refine g_l rfl ?_)|(refine k_i ?_;refine g_i rfl rfl ?_))
    |refine a_n ?_
    |(refine k_V ?_;first|refine v_seq ?_|refine v_reg ?_|refine v_skip ?_|refine v_cf rfl ?_)
    |refine s_n ?_)
   refine VA.ent (ent_new (f:=pv) (size:=6)) ?_
   refine g_range y.c.pairs.length (fun q:(List Pair×D)×Nat=>[(2,.v (.int .i64 (g1 x.H i+nGone x.H y.c (y.c.pairs.take q.2):Nat))),(8,.v (.slice q.1.2.a q.1.1.length q.1.2.cap)),(1,.v (ptr b1)),(3,.v (.int .i64 0)),(4,.v (ptr b2)),(5,.v (lostV b1 b2)),(6,.v (.int .i64 i)),(7,.v (.pointer (some ⟨z.cd.b,z.cd.o+i*8,none⟩))),(9,.v (.int .i64 z.sub)),(43,.v (.slice y.d.a y.c.pairs.length y.d.cap)),(22,.v (.int .i64 i)),(21,.v (.int .i64 x.xs.length))]) (fun q=>slA 6 pv q.1.2 q.1.1::(hp a (z.ck x.H y.c i q.2)++stR x.H a b1 b2 sd)) (fun k q=>q.2=k∧q.1.1=kept x.H y.c (y.c.pairs.take k)) ((([],⟨none,0⟩),0):(List Pair×D)×Nat) ⟨rfl,rfl⟩ (fun k q hk hv=>?_) (fun q hv=>?_) (hent:=by
    dsimp only
    rw[ck_0]
    exact Pm.ent pmt)
   ·obtain⟨⟨ps,kd⟩,k0⟩:=q
    obtain⟨hk0,hps⟩:=hv
    simp only at hk0 hps
    subst hps;subst hk0
    dsimp only
    obtain⟨p,gp⟩:∃p,y.c.pairs[k0]?=some p:=⟨_,List.getElem?_eq_getElem hk⟩
    obtain⟨pf1,pf2,_⟩:=h.r4.pairs i y.c gxs k0 p gp
    have gw:=like_ck (z:=z) (c:=y.c) (i:=i) (k:=k0) lk
    have hcu:(z.ck x.H y.c i k0).hdr.used=z.used-nGone x.H y.c (y.c.pairs.take k0):=rfl
    have hcs1:(z.ck x.H y.c i k0).hdr.sub≤z.sub∧z.sub-200≤(z.ck x.H y.c i k0).hdr.sub:=by
     show(if x.H.walkedI=i then z.sub-(nGone x.H y.c (y.c.pairs.take (min k0 z.sub.toNat)):Nat)else z.sub)≤z.sub∧z.sub-200≤(if x.H.walkedI=i then z.sub-(nGone x.H y.c (y.c.pairs.take (min k0 z.sub.toNat)):Nat)else z.sub)
     have:=nGone_le x.H y.c (y.c.pairs.take (min k0 z.sub.toNat))
     have h3:(y.c.pairs.take (min k0 z.sub.toNat)).length≤y.c.pairs.length:=by rw[List.length_take];omega
     split<;>omega
    have hng:nGone x.H y.c (y.c.pairs.take k0)≤200:=by
     have:=nGone_le x.H y.c (y.c.pairs.take k0)
     have h3:(y.c.pairs.take k0).length≤y.c.pairs.length:=by rw[List.length_take];omega
     omega
    have gyk:(z.ck x.H y.c i k0).xs[i]?=some y:=gy
    refine v_seq ?_
    repeat' (first
     |(refine k_L ?_;first|refine a_p rfl ?_|(refine k_i ?_;refine g_i rfl rfl ?_)|(refine k_ls ?_;refine g_ls rfl ?_)|(refine k_st ?_;refine g_sw rfl rfl rfl rfl (Nat.le_of_ble_eq_true rfl) ?_)|(refine k_al ?_;refine a_al ?_))
     |refine a_n ?_
     |(refine k_V ?_;refine v_reg ?_)
     |refine s_n ?_
     |refine sk_zero ?_
     |refine sk_succ ?_
     |refine wk_nil ?_
     |refine wk_cons ?_)
    refine v_seq ?_
    refine g_cut (fun _:Unit=>[(75,.v (.bool (decide (GoneP x.H y.c p)))),(10,.v (.int .i64 k0)),(11,.box (pv p)),(45,.v (.int .i64 k0)),(44,.v (.int .i64 y.c.pairs.length)),(2,.v (.int .i64 (g1 x.H i+nGone x.H y.c (y.c.pairs.take k0):Nat))),(8,.v (.slice kd.a (kept x.H y.c (y.c.pairs.take k0)).length kd.cap)),(1,.v (ptr b1)),(3,.v (.int .i64 0)),(4,.v (ptr b2)),(5,.v (lostV b1 b2)),(6,.v (.int .i64 i)),(7,.v (.pointer (some ⟨z.cd.b,z.cd.o+i*8,none⟩))),(9,.v (.int .i64 z.sub)),(43,.v (.slice y.d.a y.c.pairs.length y.d.cap)),(22,.v (.int .i64 i)),(21,.v (.int .i64 x.xs.length))]) (fun _=>slA 6 pv kd (kept x.H y.c (y.c.pairs.take k0))::(hp a (z.ck x.H y.c i k0)++stR x.H a b1 b2 sd)) (fun _=>True) ?_ (fun _ _=>?_)
    ·repeat' (first
      |(refine k_L ?_;first|refine a_p rfl ?_|(refine k_g ?_;first|refine a_gy rfl rfl ?_|refine a_gn rfl rfl ?_|refine a_gu rfl ?_|(refine a_gd rfl (fun hb=>?_) (fun hb=>?_)<;>try(exfalso;omega))|(refine a_gne rfl (fun hb=>?_) (fun hb=>?_)<;>try(exfalso;omega)))|(refine k_l ?_;refine g_l rfl ?_)|(refine a_cvq rfl (fnOk_of Tryz.func67 rfl rfl) rfl (fun m hm=>lost_q (z:=z.ck x.H y.c i k0) (H:=x.H) (sd:=sd) (w:=p.key) (sep_has hm pmt) (sep_has hm pmt) h2 gw pf1) ?_)|(refine a_cvq rfl (fnOk_of Tryz.func67 rfl rfl) rfl (fun m hm=>lost_q (z:=z.ck x.H y.c i k0) (H:=x.H) (sd:=sd) (w:=p.val) (sep_has hm pmt) (sep_has hm pmt) h2 gw pf2) ?_))
      |refine a_n ?_
      |(refine k_V ?_;refine v_reg ?_)
      |refine s_n ?_)
     ·refine j_i () trivial (hl:=⟨?_,by(repeat(first|exact trivial|refine⟨rfl,?_⟩))⟩)
      exact congrArg SV.v (ret_t (.inl ⟨keyw_no (by assumption),by assumption⟩))
     ·refine j_i () trivial (hl:=⟨?_,by(repeat(first|exact trivial|refine⟨rfl,?_⟩))⟩)
      refine congrArg SV.v (congrArg Value.bool ?_)
      refine decide_eq_decide.2 ⟨fun h=>.inr ⟨valw_no (by assumption),h⟩,fun h=>?_⟩
      rcases h with h|h
      ·exact absurd h.2 (by assumption)
      ·exact h.2
     ·refine j_i () trivial (hl:=⟨?_,by(repeat(first|exact trivial|refine⟨rfl,?_⟩))⟩)
      refine congrArg SV.v (ret_f fun h=>?_)
      rcases h with h|h
      ·exact absurd h.2 (by assumption)
      ·exact h.1 (valw_yes (by assumption))
     ·refine j_i () trivial (hl:=⟨?_,by(repeat(first|exact trivial|refine⟨rfl,?_⟩))⟩)
      refine congrArg SV.v (congrArg Value.bool ?_)
      refine decide_eq_decide.2 ⟨fun h=>.inr ⟨valw_no (by assumption),h⟩,fun h=>?_⟩
      rcases h with h|h
      ·exact absurd (keyw_yes (by assumption)) h.1
      ·exact h.2
     ·refine j_i () trivial (hl:=⟨?_,by(repeat(first|exact trivial|refine⟨rfl,?_⟩))⟩)
      refine congrArg SV.v (ret_f fun h=>?_)
      rcases h with h|h
      ·exact absurd (keyw_yes (by assumption)) h.1
      ·exact h.1 (valw_yes (by assumption))
    have hwk:=gw.walked
    have hkl:(kept x.H y.c (y.c.pairs.take k0)).length≤200:=by
     have:=kept_len x.H y.c (y.c.pairs.take k0)
     have h3:(y.c.pairs.take k0).length≤y.c.pairs.length:=by rw[List.length_take];omega
     omega
    by_cases hG:GoneP x.H y.c p
    ·have eck:=ck_gone (z:=z) (i:=i) gp hG
     have et:nGone x.H y.c (y.c.pairs.take (k0+1))=nGone x.H y.c (y.c.pairs.take k0)+1:=by rw[take_s gp,nGone_app,nGone_one,if_pos hG]
     have ek:kept x.H y.c (y.c.pairs.take (k0+1))=kept x.H y.c (y.c.pairs.take k0):=by rw[take_s gp,kept_app,kept_one,if_pos hG,List.append_nil]
     rw[decide_eq_true hG]
     have hwk1:Heap.walkedI (HX.H {z.ck x.H y.c i k0 with used:=(z.ck x.H y.c i k0).used-1})=x.H.walkedI:=hwk
     have hcs3:((z.ck x.H y.c i k0).hdr.s_used ((z.ck x.H y.c i k0).hdr.used-1)).sub=(z.ck x.H y.c i k0).hdr.sub:=rfl
     have e2:((g1 x.H i+nGone x.H y.c (y.c.pairs.take (k0+1)):Nat):Int)=((g1 x.H i+nGone x.H y.c (y.c.pairs.take k0):Nat):Int)+1:=by rw[et];omega
     repeat' (first
      |(refine k_L ?_;first|(refine k_ad ?_;refine g_ad rfl rfl ?_)|(refine k_su ?_;refine g_su rfl rfl ?_)|refine a_p rfl ?_|(refine k_g ?_;first|refine a_gy rfl rfl ?_|refine a_gn rfl rfl ?_|(refine a_gd rfl (fun hb=>?_) (fun hb=>?_)<;>try(exfalso;omega)))|(refine k_l ?_;refine g_l rfl ?_)|(refine k_st ?_;refine g_st rfl rfl rfl rfl ?_)|(refine k_c ?_;refine a_cq rfl (fun m hm=>qt_e (walked_q (x:={z.ck x.H y.c i k0 with used:=(z.ck x.H y.c i k0).used-1}) (sep_has hm pmt)) (by rw[hwk1])) ?_))
      |refine a_n ?_
      |(refine k_V ?_;first|refine v_seq ?_|refine v_reg ?_|refine v_exit ?_|refine v_skip ?_|refine v_ct rfl ?_|refine v_cf rfl ?_|(refine v_cd rfl (fun hb=>?_) (fun hb=>?_)<;>try(exfalso;omega)))
      |refine s_e ?_)
     ·refine r_ct (((kept x.H y.c (y.c.pairs.take k0),kd),k0+1):(List Pair×D)×Nat) ⟨rfl,ek.symm⟩ (hl:=?_) (he:=?_)
      ·dsimp only
       rw[e2]
       repeat(first|exact trivial|refine⟨rfl,?_⟩)
      ·dsimp only
       rw[eck,if_pos ⟨Eq.symm (by assumption),by assumption⟩]
       exact Pm.ent pmt
     ·refine r_ct (((kept x.H y.c (y.c.pairs.take k0),kd),k0+1):(List Pair×D)×Nat) ⟨rfl,ek.symm⟩ (hl:=?_) (he:=?_)
      ·dsimp only
       rw[e2]
       repeat(first|exact trivial|refine⟨rfl,?_⟩)
      ·dsimp only
       rw[eck,if_neg (fun h=>absurd h.2 (by assumption))]
       exact Pm.ent pmt
     ·refine r_ct (((kept x.H y.c (y.c.pairs.take k0),kd),k0+1):(List Pair×D)×Nat) ⟨rfl,ek.symm⟩ (hl:=?_) (he:=?_)
      ·dsimp only
       rw[e2]
       repeat(first|exact trivial|refine⟨rfl,?_⟩)
      ·dsimp only
       rw[eck,if_neg (fun h=>absurd h.1.symm (by assumption))]
       exact Pm.ent pmt
    ·have eck:=ck_keep (z:=z) (i:=i) gp hG
     have et:nGone x.H y.c (y.c.pairs.take (k0+1))=nGone x.H y.c (y.c.pairs.take k0):=by rw[take_s gp,nGone_app,nGone_one,if_neg hG];rfl
     have ek:kept x.H y.c (y.c.pairs.take (k0+1))=kept x.H y.c (y.c.pairs.take k0)++[p]:=by rw[take_s gp,kept_app,kept_one,if_neg hG]
     rw[decide_eq_false hG]
     repeat' (first
      |(refine k_L ?_;first|refine a_p rfl ?_|(refine k_bl ?_;refine a_bl rfl ?_))
      |refine a_n ?_
      |(refine k_V ?_;first|refine v_reg ?_|refine v_skip ?_|refine v_cf rfl ?_))
     refine g_ap p pv_len rfl rfl rfl (by omega) (fun kd'=>?_)
     repeat' (first
      |(refine k_L ?_;refine a_p rfl ?_)
      |refine a_n ?_)
     refine r_nx (((kept x.H y.c (y.c.pairs.take k0)++[p],kd'),k0+1):(List Pair×D)×Nat) ⟨rfl,by rw[ek]⟩ (hl:=?_) (he:=?_)
     ·dsimp only
      rw[et]
      repeat(first|exact trivial|refine⟨rfl,?_⟩)
     ·dsimp only
      rw[eck]
      exact Pm.ent pmt
   ·obtain⟨⟨ps,kd⟩,k0⟩:=q
    obtain⟨hk0,hps⟩:=hv
    simp only at hk0 hps
    subst hps;subst hk0
    dsimp only
    repeat' (first
     |(refine k_L ?_;refine a_p rfl ?_)
     |refine a_n ?_
     |(refine k_V ?_;refine v_reg ?_))
    have gyk:(z.ck x.H y.c i y.c.pairs.length).xs[i]?=some y:=gy
    rw[List.take_length]
    refine a_cs (kept x.H y.c y.c.pairs) gyk rfl rfl ?_
    repeat' (first
     |(refine k_L ?_;first|(refine k_ad ?_;refine g_ad rfl rfl ?_)|(refine k_su ?_;refine g_su rfl rfl ?_)|(refine k_ml ?_;refine g_ml rfl rfl ?_)|refine a_p rfl ?_|(refine k_g ?_;first|refine a_gy rfl rfl ?_|refine a_gn rfl rfl ?_|refine a_gu rfl ?_|(refine a_gd rfl (fun hb=>?_) (fun hb=>?_)<;>try(exfalso;omega))|(refine a_ge rfl (fun hb=>?_) (fun hb=>?_)<;>try(exfalso;omega))|(refine a_gne rfl (fun hb=>?_) (fun hb=>?_)<;>try(exfalso;omega))|(refine a_gnd rfl (fun hb=>?_) (fun hb=>?_)<;>try(exfalso;omega)))|(refine k_l ?_;refine g_l rfl ?_)|(refine k_i ?_;refine g_i rfl rfl ?_)|(refine k_ls ?_;refine g_ls rfl ?_)|(refine k_st ?_;first|refine g_st rfl rfl rfl rfl ?_|refine g_sw rfl rfl rfl rfl (Nat.le_of_ble_eq_true rfl) ?_)|(refine k_al ?_;refine a_al ?_)|(refine k_bx ?_;refine a_bx rfl rfl ?_)|(refine k_bl ?_;refine a_bl rfl ?_)|(refine k_p ?_;first|(refine a_pd rfl (fun hb=>?_) (fun hb=>?_)<;>try(exfalso;omega))|(refine a_pe rfl (fun hb=>?_) (fun hb=>?_)<;>try(exfalso;omega))|(refine a_pne rfl (fun hb=>?_) (fun hb=>?_)<;>try(exfalso;omega))|(refine a_pnd rfl (fun hb=>?_) (fun hb=>?_)<;>try(exfalso;omega))))
     |refine a_n ?_
     |(refine k_V ?_;first|refine v_rv ?_|refine v_seq ?_|refine v_reg ?_|refine v_dreg ?_|refine v_zreg ?_|refine v_bs ?_|refine v_br ?_|refine v_bd ?_|refine v_bc ?_|refine v_bk ?_|refine v_bb ?_|refine v_ret ?_|refine v_exit ?_|refine v_skip ?_|refine v_ct rfl ?_|refine v_cf rfl ?_|(refine v_cd rfl (fun hb=>?_) (fun hb=>?_)<;>try(exfalso;omega))|(refine v_ce rfl (fun hb=>?_) (fun hb=>?_)<;>try(exfalso;omega))|(refine v_cn rfl (fun hb=>?_) (fun hb=>?_)<;>try(exfalso;omega))|(refine v_cnd rfl (fun hb=>?_) (fun hb=>?_)<;>try(exfalso;omega)))
     |refine s_n ?_
     |refine s_r ?_
     |refine s_e ?_
     |refine b_n ?_
     |refine b_r ?_
     |refine b_e ?_
     |refine b_o rfl ?_
     |refine r_rt ?_
     |refine r_bk rfl ?_
     |refine r_ex rfl rfl ?_
     |refine sk_zero ?_
     |refine sk_succ ?_
     |refine wk_nil ?_
     |refine wk_cons ?_)
    generalize hZ:({z.ck x.H y.c i y.c.pairs.length with xs:=z.xs.set i ⟨{y.c with pairs:=kept x.H y.c y.c.pairs},kd.a,kd.cap⟩}:HX)=Z
    have hd:(z.ck x.H y.c i y.c.pairs.length).hdr=Z.hdr:=by rw[←hZ];simp[HX.hdr,HX.ck]
    have zH:Z.H=x.H.cutC z.H i:=by
     rw[←hZ]
     unfold Heap.cutC
     rw[gk]
     have m1:y.c.pairs.take (min y.c.pairs.length z.sub.toNat)=y.c.pairs.take z.sub.toNat:=by
      rcases Nat.le_total y.c.pairs.length z.sub.toNat with e|e
      ·rw[Nat.min_eq_left e,List.take_length,List.take_of_length_le e]
      ·rw[Nat.min_eq_right e]
     unfold HX.H HX.ck
     simp only[List.map_set,List.take_length,m1]
    refine r_nx ((Z,g1 x.H (i+1)):HX×Nat) ⟨by rw[zH,ep],rfl⟩ (hl:=?_) (he:=?_)
    ·dsimp only
     rw[eg]
     repeat(first|exact trivial|refine⟨rfl,?_⟩)
    ·rw[hd]
     dsimp only
     have e1:Z.rd=z.rd∧Z.regs=z.regs∧Z.cd=z.cd∧Z.gd=z.gd∧Z.gray=z.gray∧Z.xs=z.xs.set i ⟨{y.c with pairs:=kept x.H y.c y.c.pairs},kd.a,kd.cap⟩:=by rw[←hZ];exact⟨rfl,rfl,rfl,rfl,rfl,rfl⟩
     show Ent _ ([hdA a Z.hdr,slA 3 wv Z.rd Z.regs,clA Z.cd Z.xs,slA 1 iv Z.gd Z.gray]++stR x.H a b1 b2 sd)
     rw[e1.1,e1.2.1,e1.2.2.1,e1.2.2.2.1,e1.2.2.2.2.1,e1.2.2.2.2.2]
     exact Pm.ent pmt
  ·rw[decide_eq_false hh]at hgi
   rw[if_neg hh]at eg ep
   have hgi':(heldL x.H)[(i:Int).toNat]?=some false:=hgi
   repeat' (first
    |(refine k_L ?_;first|refine a_p rfl ?_|(refine k_l ?_;refine g_l rfl ?_)|(refine k_i ?_;refine g_i rfl rfl ?_))
    |refine a_n ?_
    |(refine k_V ?_;first|refine v_seq ?_|refine v_reg ?_|refine v_exit ?_|refine v_ct rfl ?_)
    |refine s_e ?_)
   exact r_ct ((z,g1 x.H i):HX×Nat) ⟨ep.symm,eg.symm⟩
 obtain⟨z0,g0⟩:=q
 obtain⟨hz0,hg0⟩:=hv
 simp only at hz0 hg0
 subst hg0
 dsimp only
 obtain⟨lk0,_,lla0,lu0,_⟩:=p1_ok x.H x.H.cells.length (Nat.le_refl _)
 rw[hl]at lk0 lla0 lu0
 rw[←hz0]at lk0
 have hz0n:z0.hdr.nc=z0.xs.length:=rfl
 have hz0l:=z0.len
 have hz0x:z0.xs.length=x.xs.length:=by rw[←hz0l,lk0.len,hl]
 repeat' (first
  |(refine k_L ?_;first|refine a_p rfl ?_|(refine k_l ?_;refine g_l rfl ?_))
  |refine a_n ?_
  |(refine k_V ?_;first|refine v_seq ?_|refine v_reg ?_)
  |refine s_n ?_)
 refine g_range x.xs.length (fun q:HX×Nat=>[(1,.v (ptr b1)),(2,.v (.int .i64 (g1 x.H x.xs.length))),(3,.v (.int .i64 q.2)),(4,.v (ptr b2))]) (fun q=>hp a q.1++stR x.H a b1 b2 sd) (fun i q=>q.1.H=p2 x.H i∧q.2=d2 x.H i) ((z0,0):HX×Nat) ⟨by show z0.H=p1 x.H x.H.cells.length;rw[hz0,hl],rfl⟩ (fun i q hi hv=>?_) (fun q hv=>?_) (hl:=by
  have:z0.hdr.nc=x.xs.length:=by omega
  rw[this]
  repeat(first|exact trivial|refine⟨rfl,?_⟩))
 ·obtain⟨z,d⟩:=q
  obtain⟨hz,hd⟩:=hv
  simp only at hz hd
  subst hd
  dsimp only
  obtain⟨lk,lc,_,_,_⟩:=p2_ok x.H i (by omega)
  rw[←hz]at lk lc
  have hzl:=z.len
  have hzn:z.hdr.nc=z.xs.length:=rfl
  have hzx:z.xs.length=x.xs.length:=by rw[←hzl,lk.len,hl]
  obtain⟨y,gy,gyc⟩:=HX.at (x:=z) (i:=i) (by omega)
  have gk:=HX.gc gy
  have hd2:=d2_le x.H i
  have hlast:y.c.last=(x.H.getC i).last:=by rw[←gk,lc i (Nat.le_refl _),hl];exact lla0 i
  have hst:y.c.state=(x.H.getC i).state:=by rw[←gk];exact(lk.cell i).1
  have gxs:=getL_some (cs:=x.H.cells) (j:=i) (by omega) (by omega)
  rw[Int.toNat_natCast,←getC_L]at gxs
  have hls:y.c.last=1→y.c.state=1:=fun e=>by
   rcases Decidable.em (y.c.state=1)with e2|e2
   ·exact e2
   ·have:=(h2.bare gxs (by rw[←hst];exact e2)).2.2.1
    omega
  have hgi:=heldL_get (H:=x.H) (j:=i) (by omega)
  have ed:d2 x.H (i+1)=if ¬Held x.H i∧y.c.last=1 then d2 x.H i+1 else d2 x.H i:=by show(if _ then _ else _)=_;rw[hlast]
  have ep:p2 x.H (i+1)=if ¬Held x.H i∧y.c.last=1 then{z.H with cells:=z.H.cells.set i {z.H.getC i with last:=2}}else z.H:=by show(if _ then _ else _)=_;rw[hlast,hz]
  have gy':z.xs[(i:Int).toNat]?=some y:=gy
  by_cases hh:Held x.H i
  ·rw[decide_eq_true hh]at hgi
   have hgi':(heldL x.H)[(i:Int).toNat]?=some true:=hgi
   rw[if_neg (fun h=>h.1 hh)]at ed ep
   repeat' (first
    |(refine k_L ?_;first|refine a_p rfl ?_|(refine k_g ?_;first|refine a_gy rfl rfl ?_|refine a_gn rfl rfl ?_|(refine a_gd rfl (fun hb=>?_) (fun hb=>?_)<;>try(exfalso;omega)))|(refine k_l ?_;refine g_l rfl ?_)|(refine k_i ?_;refine g_i rfl rfl ?_))
    |refine a_n ?_
    |(refine k_V ?_;first|refine v_seq ?_|refine v_reg ?_|refine v_skip ?_|refine v_cf rfl ?_))
   all_goals exact r_nx ((z,d2 x.H i):HX×Nat) ⟨ep.symm,ed.symm⟩
  ·rw[decide_eq_false hh]at hgi
   have hgi':(heldL x.H)[(i:Int).toNat]?=some false:=hgi
   by_cases hl1:y.c.last=1
   ·have hs1:=hls hl1
    rw[if_pos ⟨hh,hl1⟩]at ed ep
    repeat' (first
     |(refine k_L ?_;first|(refine k_ad ?_;refine g_ad rfl rfl ?_)|refine a_p rfl ?_|(refine k_g ?_;first|refine a_gy rfl rfl ?_|(refine a_gd rfl (fun hb=>?_) (fun hb=>?_)<;>try(exfalso;omega)))|(refine k_l ?_;refine g_l rfl ?_)|(refine k_i ?_;refine g_i rfl rfl ?_)|(refine k_st ?_;refine g_st rfl rfl rfl rfl ?_))
     |refine a_n ?_
     |(refine k_V ?_;first|refine v_seq ?_|refine v_reg ?_|(refine v_cd rfl (fun hb=>?_) (fun hb=>?_)<;>try(exfalso;omega))))
    generalize hZ:({z with xs:=z.xs.set i (y.s_last 2)}:HX)=Z
    have hdr:z.hdr=Z.hdr:=by rw[←hZ];simp[HX.hdr]
    have zH:Z.H=p2 x.H (i+1):=by
     rw[←hZ,ep,gk]
     unfold HX.H
     simp only[List.map_set]
     rfl
    refine r_nx ((Z,d2 x.H (i+1)):HX×Nat) ⟨zH,rfl⟩ (hl:=?_) (he:=?_)
    ·dsimp only
     rw[ed]
     repeat(first|exact trivial|refine⟨rfl,?_⟩)
    ·rw[hdr]
     dsimp only
     have e1:Z.rd=z.rd∧Z.regs=z.regs∧Z.cd=z.cd∧Z.gd=z.gd∧Z.gray=z.gray∧Z.xs=z.xs.set i (y.s_last 2):=by rw[←hZ];exact⟨rfl,rfl,rfl,rfl,rfl,rfl⟩
     show Ent _ ([hdA a Z.hdr,slA 3 wv Z.rd Z.regs,clA Z.cd Z.xs,slA 1 iv Z.gd Z.gray]++stR x.H a b1 b2 sd)
     rw[e1.1,e1.2.1,e1.2.2.1,e1.2.2.2.1,e1.2.2.2.2.1,e1.2.2.2.2.2]
     exact Pm.ent pmt
   ·rw[if_neg (fun h=>hl1 h.2)]at ed ep
    repeat' (first
     |(refine k_L ?_;first|refine a_p rfl ?_|(refine k_g ?_;first|refine a_gy rfl rfl ?_|refine a_gn rfl rfl ?_|(refine a_gd rfl (fun hb=>?_) (fun hb=>?_)<;>try(exfalso;omega)))|(refine k_l ?_;refine g_l rfl ?_)|(refine k_i ?_;refine g_i rfl rfl ?_))
     |refine a_n ?_
     |(refine k_V ?_;first|refine v_seq ?_|refine v_reg ?_|refine v_skip ?_|refine v_cf rfl ?_|(refine v_cd rfl (fun hb=>?_) (fun hb=>?_)<;>try(exfalso;omega))))
    all_goals exact r_nx ((z,d2 x.H i):HX×Nat) ⟨ep.symm,ed.symm⟩
 ·obtain⟨z,d⟩:=q
  obtain⟨hz,hd⟩:=hv
  simp only at hz hd
  subst hd
  dsimp only
  repeat' (first
   |(refine k_L ?_;refine a_p rfl ?_)
   |refine a_n ?_
   |(refine k_V ?_;first|refine v_seq ?_|refine v_reg ?_|refine v_ret ?_))
  refine fa_r (As':=hp a z) (fun _ _=>rfl) (Pm.ent pmt) ⟨z,?_,rfl,?_⟩
  ·rw[hl]
  ·unfold Heap.settleH
   rw[hz,hl]
theorem erase_snoc{α:Type}{l:List α}{p:α}{k:Nat}:(l++[p]).eraseIdx k=if l.length=k then l else l.eraseIdx k++(if k<l.length then[p]else[p]):=by
 by_cases h:k<l.length
 ·rw[if_neg (by omega),if_pos h,List.eraseIdx_append_of_lt_length h]
 ·rw[List.eraseIdx_append_of_length_le (by omega)]
  by_cases e:l.length=k
  ·rw[if_pos e,e,Nat.sub_self];simp
  ·rw[if_neg e,if_neg h,List.eraseIdx_of_length_le (l:=l) (by omega),List.eraseIdx_of_length_le (by simp;omega)]
theorem l4cut_a{a:Nat}{z:HX}{i k:Nat}{y:CS}(gy:z.xs[i]?=some y)(hk:k<y.c.pairs.length)(hpl:y.c.pairs.length≤200)(hu: -1000000000≤z.used∧z.used≤1000000000)(hs: -1000000000≤z.sub∧z.sub≤1000000000)(hn:z.xs.length≤8000):
 FnA Tryz.prog 79 [ptr a,.int .i64 i,.int .i64 k] (hp a z) (fun v As=>∃u:HX,As=hp a u∧u.rd=z.rd∧u.H={z.H with cells:=z.H.cells.set i {y.c with pairs:=y.c.pairs.eraseIdx k},used:=z.used-1,sub:=if(k:Int)<z.sub∧z.H.walkedI=i then z.sub-1 else z.sub}):=by
 refine fnA_of (fun h=>fn79 (by simp) h) ?_
 have hnc:z.hdr.nc=z.xs.length:=rfl
 have hlt:=(List.getElem?_eq_some_iff.1 gy).1
 have gy':z.xs[(i:Int).toNat]?=some y:=gy
 have hud:z.hdr.used=z.used:=rfl
 have hsd:z.hdr.sub=z.sub:=rfl
 repeat' (first
  |(refine k_L ?_;first|refine a_p rfl ?_|(refine k_l ?_;refine g_l rfl ?_)|(refine k_i ?_;refine g_i rfl rfl ?_))
  |refine a_n ?_
  |(refine k_V ?_;first|refine v_seq ?_|refine v_reg ?_)
  |refine s_n ?_)
 refine VA.ent (ent_new (f:=pv) (size:=6)) ?_
 refine g_range y.c.pairs.length (fun q:List Pair×D=>[(0,.v (ptr a)),(1,.v (.int .i64 i)),(2,.v (.int .i64 k)),(6,.v (.slice q.2.a q.1.length q.2.cap)),(16,.v (.slice y.d.a y.c.pairs.length y.d.cap))]) (fun q=>slA 6 pv q.2 q.1::hp a z) (fun j q=>q.1=(y.c.pairs.take j).eraseIdx k) (([],⟨none,0⟩):List Pair×D) rfl (fun j q hj hv=>?_) (fun q hv=>?_)
 ·obtain⟨ps,d⟩:=q
  simp only at hv
  subst hv
  obtain⟨p,gp⟩:∃p,y.c.pairs[j]?=some p:=⟨_,List.getElem?_eq_getElem hj⟩
  have hjl:(y.c.pairs.take j).length=j:=by rw[List.length_take];omega
  have hel:((y.c.pairs.take j).eraseIdx k).length≤200:=by
   have:((y.c.pairs.take j).eraseIdx k).length≤(y.c.pairs.take j).length:=(List.eraseIdx_sublist _ _).length_le
   omega
  have es:(y.c.pairs.take (j+1)).eraseIdx k=if j=k then y.c.pairs.take j else(y.c.pairs.take j).eraseIdx k++[p]:=by
   rw[List.take_add_one,gp]
   show(y.c.pairs.take j++[p]).eraseIdx k=_
   rw[erase_snoc,hjl]
   by_cases e:j=k
   ·rw[if_pos e,if_pos e]
   ·rw[if_neg e,if_neg e];split<;>rfl
  dsimp only
  by_cases ejk:j=k
  ·have e1:(y.c.pairs.take j).eraseIdx k=y.c.pairs.take j:=List.eraseIdx_of_length_le (by omega)
   rw[if_pos ejk,←e1]at es
   repeat' (first
    |(refine k_L ?_;first|refine a_p rfl ?_|(refine k_i ?_;refine g_i rfl rfl ?_)|(refine k_ls ?_;refine g_ls rfl ?_)|(refine k_st ?_;refine g_sw rfl rfl rfl rfl (Nat.le_of_ble_eq_true rfl) ?_)|(refine k_al ?_;refine a_al ?_))
    |refine a_n ?_
    |(refine k_V ?_;first|refine v_seq ?_|refine v_reg ?_|refine v_skip ?_|(refine v_cn rfl (fun hb=>?_) (fun hb=>?_)<;>try(exfalso;omega)))
    |refine sk_zero ?_
    |refine sk_succ ?_
    |refine wk_nil ?_
    |refine wk_cons ?_)
   exact r_nx (((y.c.pairs.take j).eraseIdx k,d):List Pair×D) es.symm
  ·rw[if_neg ejk]at es
   repeat' (first
    |(refine k_L ?_;first|refine a_p rfl ?_|(refine k_i ?_;refine g_i rfl rfl ?_)|(refine k_ls ?_;refine g_ls rfl ?_)|(refine k_st ?_;refine g_sw rfl rfl rfl rfl (Nat.le_of_ble_eq_true rfl) ?_)|(refine k_al ?_;refine a_al ?_)|(refine k_bl ?_;refine a_bl rfl ?_))
    |refine a_n ?_
    |(refine k_V ?_;first|refine v_seq ?_|refine v_reg ?_|(refine v_cn rfl (fun hb=>?_) (fun hb=>?_)<;>try(exfalso;omega)))
    |refine sk_zero ?_
    |refine sk_succ ?_
    |refine wk_nil ?_
    |refine wk_cons ?_)
   refine g_ap p pv_len rfl rfl rfl (by omega) (fun d'=>?_)
   repeat' (first
    |(refine k_L ?_;refine a_p rfl ?_)
    |refine a_n ?_)
   exact r_nx (((y.c.pairs.take j).eraseIdx k++[p],d'):List Pair×D) es.symm
 ·obtain⟨ps,d⟩:=q
  simp only at hv
  rw[List.take_length]at hv
  subst hv
  dsimp only
  generalize hZ:({z with xs:=z.xs.set i ⟨{y.c with pairs:=y.c.pairs.eraseIdx k},d.a,d.cap⟩,used:=z.used-1}:HX)=Z
  have hd:z.hdr.s_used (z.hdr.used-1)=Z.hdr:=by rw[←hZ];simp[HX.hdr,Hdr.s_used]
  have e1:Z.rd=z.rd∧Z.regs=z.regs∧Z.cd=z.cd∧Z.gd=z.gd∧Z.gray=z.gray∧Z.xs=z.xs.set i ⟨{y.c with pairs:=y.c.pairs.eraseIdx k},d.a,d.cap⟩:=by rw[←hZ];exact⟨rfl,rfl,rfl,rfl,rfl,rfl⟩
  have zs:Z.sub=z.sub:=by rw[←hZ]
  have zH:Z.H={z.H with cells:=z.H.cells.set i {y.c with pairs:=y.c.pairs.eraseIdx k},used:=z.used-1}:=by
   rw[←hZ]
   unfold HX.H
   simp only[List.map_set]
  have zw:Z.H.walkedI=z.H.walkedI:=by
   rw[zH]
   unfold Heap.walkedI
   simp only[List.length_set]
  have pm:∀h:Hdr,Ent (clA z.cd (z.xs.set (i:Int).toNat ⟨{y.c with pairs:=y.c.pairs.eraseIdx k},d.a,d.cap⟩)::hdA a h::slA 3 wv z.rd z.regs::slA 1 iv z.gd z.gray::[]) [hdA a h,slA 3 wv Z.rd Z.regs,clA Z.cd Z.xs,slA 1 iv Z.gd Z.gray]:=fun h=>by
   rw[e1.1,e1.2.1,e1.2.2.1,e1.2.2.2.1,e1.2.2.2.2.1,e1.2.2.2.2.2]
   exact Pm.ent pmt
  repeat' (first
   |(refine k_L ?_;first|(refine k_su ?_;refine g_su rfl rfl ?_)|refine a_p rfl ?_|(refine k_g ?_;first|refine a_gy rfl rfl ?_|refine a_gn rfl rfl ?_|(refine a_gd rfl (fun hb=>?_) (fun hb=>?_)<;>try(exfalso;omega)))|(refine k_l ?_;refine g_l rfl ?_)|(refine k_i ?_;refine g_i rfl rfl ?_)|(refine k_st ?_;refine g_st rfl rfl rfl rfl ?_)|(refine a_cs (y.c.pairs.eraseIdx k) gy' rfl rfl ?_))
   |refine a_n ?_
   |(refine k_V ?_;first|refine v_seq ?_|refine v_reg ?_|refine v_skip ?_|refine v_cf rfl ?_))
  ·have hks:(k:Int)<z.sub:=by have:(z.hdr.s_used (z.hdr.used-1)).sub=z.sub:=rfl;omega
   rw[hd]
   refine LA.ent (Bs:=hp a Z) (pm _) ?_
   have zsd:Z.hdr.sub=z.sub:=zs
   repeat' (first
    |(refine k_L ?_;first|(refine k_su ?_;refine g_su rfl rfl ?_)|refine a_p rfl ?_|(refine k_g ?_;refine a_gy rfl rfl ?_)|(refine k_l ?_;refine g_l rfl ?_)|(refine k_st ?_;refine g_st rfl rfl rfl rfl ?_)|(refine k_c ?_;refine a_cq rfl (fun m hm=>qt_e (l4scanned_q (x:=Z) (sep_has hm pmt)) (by rw[zw])) ?_))
    |refine a_n ?_
    |(refine k_V ?_;first|refine v_reg ?_|refine v_skip ?_|(refine v_cd rfl (fun hb=>?_) (fun hb=>?_)<;>try(exfalso;omega))))
   ·refine fa_n (fun _ _=>rfl) (Pm.ent (fin {Z with sub:=Z.sub-1})) ⟨_,rfl,e1.1,?_⟩
    rw[if_pos ⟨hks,by assumption⟩]
    show({Z.H with sub:=Z.sub-1}:Heap)=_
    rw[zH,zs]
   ·refine fa_n (fun _ _=>rfl) (Pm.ent (fin Z)) ⟨_,rfl,e1.1,?_⟩
    rw[if_neg (fun h=>absurd h.2 (by assumption)),zH]
    rfl
  ·have hks:¬(k:Int)<z.sub:=by have:(z.hdr.s_used (z.hdr.used-1)).sub=z.sub:=rfl;omega
   rw[hd]
   refine fa_n (fun _ _=>rfl) (pm _) ⟨Z,rfl,e1.1,?_⟩
   rw[if_neg (fun h=>hks h.1),zH]
   rfl
theorem cutN_get{K:Heap}{i m:Nat}(hi:i<K.cells.length):(K.cutN i m).getC i={K.getC i with pairs:=(K.getC i).pairs.take m}:=by
 unfold Heap.cutN
 rw[putC_get hi,if_pos (by omega)]
theorem cut_step{K:Heap}{i m:Nat}(hi:i<K.cells.length)(hm:m+1≤(K.getC i).pairs.length)(hs:0≤K.sub):
 {K.cutN i (m+1)with cells:=(K.cutN i (m+1)).cells.set i {(K.cutN i (m+1)).getC i with pairs:=((K.cutN i (m+1)).getC i).pairs.eraseIdx m},used:=(K.cutN i (m+1)).used-1,sub:=if(m:Int)<(K.cutN i (m+1)).sub∧(K.cutN i (m+1)).walkedI=i then(K.cutN i (m+1)).sub-1 else(K.cutN i (m+1)).sub}=K.cutN i m:=by
 rw[cutN_get hi]
 have hl:(K.cutN i (m+1)).cells.length=K.cells.length:=by unfold Heap.cutN Heap.putC;simp
 have hw:(K.cutN i (m+1)).walkedI=K.walkedI:=by
  unfold Heap.walkedI
  rw[hl];rfl
 rw[hw]
 have e1:((K.getC i).pairs.take (m+1)).eraseIdx m=(K.getC i).pairs.take m:=by
  rw[List.eraseIdx_eq_take_drop_succ,List.take_take,List.drop_eq_nil_of_le (by rw[List.length_take];omega),List.append_nil]
  congr 1;omega
 rw[e1]
 unfold Heap.cutN Heap.putC
 simp only[List.set_set,Heap.mk.injEq,true_and,and_true]
 refine⟨by omega,?_⟩
 by_cases w:K.walkedI=i
 ·rw[if_pos w,if_pos w]
  split<;>omega
 ·rw[if_neg w,if_neg (fun e=>w e.2),if_neg w]
theorem cut_top{K:Heap}{i:Nat}(h:Sound K)(hi:i<K.cells.length):K.cutN i (K.getC i).pairs.length=K:=by
 unfold Heap.cutN Heap.putC
 have e1:K.cells.set i {K.getC i with pairs:=(K.getC i).pairs.take (K.getC i).pairs.length}=K.cells:=by
  rw[List.take_length]
  refine List.ext_getElem? fun j=>?_
  rw[List.getElem?_set]
  split
  ·rename_i e
   subst e
   rw[get_at hi]
  ·rfl
 rw[e1]
 have e2:(if K.walkedI=i then min K.sub (K.getC i).pairs.length else K.sub)=K.sub:=by
  split
  ·rename_i w;have:=walked_sub h hi w;omega
  ·rfl
 rw[e2]
 have e3:K.used-(((K.getC i).pairs.length:Int)-((K.getC i).pairs.length:Nat))=K.used:=by omega
 rw[e3]
theorem l5cut_a{a:Nat}{x:HX}{i n:Nat}(h:Sound x.H)(hi:i<x.xs.length)(hs:(x.H.getC i).state=1):FnA Tryz.prog 145 [ptr a,.int .i64 i,.int .i64 n] (hp a x) (fun v As=>∃z:HX,As=hp a z∧z.H=x.H.cutH i n):=by
 have hl:=x.len
 have hi':i<x.H.cells.length:=by omega
 have hub:=used_b h
 have hc8:=h.r1.cells
 have hrm:=h.r1.room
 have hsb:=h.r1.sub
 have hpl:=getC_pl h.r2 i
 refine fnA_of (fun h=>fn145 (by simp) h) ?_
 refine v_blk ?_
 generalize hL:(x.H.getC i).pairs.length=L at*
 have hcut:∀m:Nat,m≤L→Sound (x.H.cutN i m):=fun m hm=>cutN_sound h hi' hs (by omega)
 refine v_loop (fun q:Nat×HX=>[(0,.v (ptr a)),(1,.v (.int .i64 i)),(2,.v (.int .i64 n))]) (fun q=>hp a q.2) (fun k q=>k=q.1∧q.1≤L∧(n≤q.1∨q.1=L)∧q.2.H=x.H.cutN i q.1) ⟨_,(L,x),⟨rfl,rfl,rfl,trivial⟩,Ent.refl _,rfl,Nat.le_refl _,.inr rfl,by rw[←hL];exact(cut_top h hi').symm⟩ ?_
 rintro k ⟨m,z⟩ ⟨rfl,hm,hn,hz⟩
 simp only at hm hn hz
 dsimp only
 have hs2:Sound z.H:=by rw[hz];exact hcut k hm
 have hzl:z.xs.length=x.xs.length:=by
  have:=congrArg (fun K:Heap=>K.cells.length) hz
  simp only[HX.len]at this
  unfold Heap.cutN Heap.putC at this
  simpa [HX.len]using this
 have hnc:z.hdr.nc=z.xs.length:=rfl
 obtain⟨y,gy,gc⟩:=HX.at (x:=z) (i:=i) (by omega)
 have gk:=HX.gc gy
 have gz:y.c={x.H.getC i with pairs:=(x.H.getC i).pairs.take k}:=by rw[←gk,hz,cutN_get hi']
 have gp:y.c.pairs.length=k:=by rw[gz];simp;omega
 have zb:=used_b hs2
 have zs:=hs2.r1.sub
 have zu:z.used=z.H.used:=rfl
 have zs':z.sub=z.H.sub:=rfl
 have zd:z.hdr.used=z.used:=rfl
 by_cases hkn:n<k
 ·obtain⟨j,rfl⟩:∃j,k=j+1:=⟨k-1,by omega⟩
  have e28:(y.c.pairs.length:Int)-1=j:=by omega
  repeat' (first
   |(refine k_L ?_;first|(refine k_su ?_;refine g_su rfl rfl ?_)|refine a_p rfl ?_|(refine k_l ?_;refine g_l rfl ?_)|(refine k_i ?_;refine g_i rfl rfl ?_))
   |refine a_n ?_
   |(refine k_V ?_;first|refine v_seq ?_|refine v_reg ?_|refine v_br ?_|refine v_skip ?_|(refine v_cd rfl (fun hb=>?_) (fun hb=>?_)<;>try(exfalso;omega))))
  rw[e28]
  refine g_c rfl (l4cut_a (z:=z) (i:=i) (k:=j) gy (by omega) (by omega) (by omega) (by omega) (by omega)) (fun v As' hq=>?_)
  obtain⟨u,rfl,_,hu⟩:=hq
  repeat' (first
   |refine a_n ?_
   |refine s_n ?_
   |refine b_n ?_)
  refine⟨j,(j,u),by omega,⟨rfl,rfl,rfl,trivial⟩,Pm.ent pmt,rfl,by omega,.inl (by omega),?_⟩
  show u.H=x.H.cutN i j
  rw[hu,←gk]
  have:=cut_step (K:=x.H) (i:=i) (m:=j) hi' (by omega) hsb.1
  rw[←hz]at this
  exact this
 ·repeat' (first
   |(refine k_L ?_;first|refine a_p rfl ?_|(refine k_l ?_;refine g_l rfl ?_)|(refine k_i ?_;refine g_i rfl rfl ?_))
   |refine a_n ?_
   |(refine k_V ?_;first|refine v_seq ?_|refine v_reg ?_|refine v_exit ?_|(refine v_cd rfl (fun hb=>?_) (fun hb=>?_)<;>try(exfalso;omega)))
   |refine s_e ?_
   |refine b_e ?_)
  refine fa_n (fun _ _=>rfl) (Pm.ent pmt) ⟨z,rfl,?_⟩
  rw[hz]
  unfold Heap.cutH
  by_cases e:n<(x.H.getC i).pairs.length
  ·rw[if_pos e]
   congr 1;omega
  ·rw[if_neg e]
   have:k=(x.H.getC i).pairs.length:=by omega
   rw[this];exact cut_top h hi'
theorem getR_at{x:HX}{k:Nat}{w:Word}(h:x.regs[k]?=some w):x.H.getR k=w:=by
 unfold Heap.getR
 show x.regs.getD _ _=w
 rw[List.getD_eq_getElem?_getD,Int.toNat_natCast,h];rfl
theorem l5pair_rd{a:Nat}{x:HX}{op n:Int}{ka kb kc:Nat}(h:Sound x.H)(ha:ka≤15)(hb:kb≤15)(ho:op=5∨op=6):FnA Tryz.prog 136 [ptr a,.agg #[.int .i64 op,.int .i64 ka,.int .i64 kb,.int .i64 kc,.int .i64 n]] (hp a x) (fun v As=>∃z:HX,v=an (doPair x.H ⟨op,ka,kb,kc,n⟩).code (doPair x.H ⟨op,ka,kb,kc,n⟩).num∧As=hp a z∧z.H=(doPair x.H ⟨op,ka,kb,kc,n⟩).heap):=by
 have hl:=x.len
 have hnc:x.hdr.nc=x.xs.length:=rfl
 have hnr:x.hdr.nr=x.regs.length:=rfl
 have h16:x.regs.length=16:=h.r1.regs
 obtain⟨wa_,ga⟩:∃w,x.regs[ka]?=some w:=⟨_,List.getElem?_eq_getElem (by omega)⟩
 obtain⟨w,gw⟩:∃w,x.regs[kb]?=some w:=⟨_,List.getElem?_eq_getElem (by omega)⟩
 have er:x.H.getR kb=w:=getR_at gw
 obtain⟨r1,r2⟩:=getR_ok h (r:=kb) (by omega) (by omega)
 rw[er]at r1 r2
 refine fnA_of (fun h=>fn136 (by simp) h) ?_
 unfold doPair
 dsimp only
 rw[if_pos ho,er]
 by_cases hk:w.kind=2
 ·obtain⟨b0,b1,b2,b3⟩:=r2 hk
  obtain⟨j,hj⟩:=Int.eq_ofNat_of_zero_le b0
  obtain⟨wk,wn,wat⟩:=w
  dsimp only at hk hj b1
  subst hk hj
  obtain⟨y,gy,gc⟩:=HX.at (x:=x) (i:=j) (by omega)
  have gk:=HX.gc gy
  rw[if_neg (fun e=>e rfl)]
  dsimp only
  rw[gk,Int.toNat_natCast]
  have hcj:x.H.cells[j]?=some y.c:=gc
  cases hpp:y.c.pairs[kc]? with
  |none=>
   have:=List.getElem?_eq_none_iff.1 hpp
   rcases ho with rfl|rfl
   ·repeat' (first
     |(refine k_L ?_;first|refine a_p rfl ?_|(refine k_g ?_;refine a_gn rfl rfl ?_)|(refine k_l ?_;first|refine a_l rfl (by exact rd_t (rd_h (rd_sl (fun _=>rfl) gw rfl))) ?_|refine g_l rfl ?_)|(refine k_i ?_;refine g_i rfl rfl ?_)|(refine k_st ?_;refine g_sw rfl rfl rfl rfl (Nat.le_of_ble_eq_true rfl) ?_)|(refine k_al ?_;refine a_al ?_)|(refine k_bx ?_;refine a_bx rfl rfl ?_)|(refine k_c ?_;refine a_cq rfl (fun m hm=>l5bad_q) ?_))
     |refine a_n ?_
     |(refine k_V ?_;first|refine v_seq ?_|refine v_reg ?_|refine v_dreg ?_|refine v_ret ?_|refine v_skip ?_|refine v_ct rfl ?_|refine v_cf rfl ?_|(refine v_cd rfl (fun hb=>?_) (fun hb=>?_)<;>try(exfalso;omega)))
     |refine s_r ?_
     |refine sk_zero ?_
     |refine sk_succ ?_
     |refine wk_nil ?_
     |refine wk_cons ?_)
    all_goals exact fa_r (fun _ _=>rfl) (Pm.ent pmt) ⟨x,rfl,rfl,rfl⟩
   ·repeat' (first
     |(refine k_L ?_;first|refine a_p rfl ?_|(refine k_g ?_;refine a_gy rfl rfl ?_)|(refine k_l ?_;first|refine a_l rfl (by exact rd_t (rd_h (rd_sl (fun _=>rfl) gw rfl))) ?_|refine g_l rfl ?_)|(refine k_i ?_;refine g_i rfl rfl ?_)|(refine k_st ?_;refine g_sw rfl rfl rfl rfl (Nat.le_of_ble_eq_true rfl) ?_)|(refine k_al ?_;refine a_al ?_)|(refine k_bx ?_;refine a_bx rfl rfl ?_)|(refine k_c ?_;refine a_cq rfl (fun m hm=>l5bad_q) ?_))
     |refine a_n ?_
     |(refine k_V ?_;first|refine v_seq ?_|refine v_reg ?_|refine v_dreg ?_|refine v_ret ?_|refine v_skip ?_|refine v_ct rfl ?_|refine v_cf rfl ?_|(refine v_cd rfl (fun hb=>?_) (fun hb=>?_)<;>try(exfalso;omega)))
     |refine s_r ?_
     |refine sk_zero ?_
     |refine sk_succ ?_
     |refine wk_nil ?_
     |refine wk_cons ?_)
    all_goals exact fa_r (fun _ _=>rfl) (Pm.ent pmt) ⟨x,rfl,rfl,rfl⟩
  |some p=>
   have:=(List.getElem?_eq_some_iff.1 hpp).1
   obtain⟨p1,p2,_⟩:=h.r4.pairs j y.c hcj kc p hpp
   have fk:p.key.kind=2→0≤p.key.at_∧p.key.at_<x.H.cells.length:=fun e=>p1.at e
   have fv:p.val.kind=2→0≤p.val.at_∧p.val.at_<x.H.cells.length:=fun e=>p2.at e
   rcases ho with rfl|rfl
   ·repeat' (first
     |(refine k_L ?_;first|refine a_p rfl ?_|(refine k_g ?_;refine a_gn rfl rfl ?_)|(refine k_l ?_;first|refine a_l rfl (by exact rd_t (rd_h (rd_sl (fun _=>rfl) gw rfl))) ?_|refine g_l rfl ?_)|(refine k_i ?_;refine g_i rfl rfl ?_)|(refine k_ls ?_;refine g_ls rfl ?_)|(refine k_st ?_;first|refine g_st rfl rfl rfl rfl ?_|refine g_sw rfl rfl rfl rfl (Nat.le_of_ble_eq_true rfl) ?_)|(refine k_al ?_;refine a_al ?_)|(refine k_bx ?_;refine a_bx rfl rfl ?_)|(refine k_q ?_;refine a_q rfl (fun m hm=>l1resolve_q (x:=x) (sep_has hm pmt) fk) ?_)|(refine k_c ?_;refine a_cq rfl (fun m hm=>l5fine_q) ?_))
     |refine a_n ?_
     |(refine k_V ?_;first|refine v_seq ?_|refine v_reg ?_|refine v_dreg ?_|refine v_bs ?_|refine v_ret ?_|refine v_skip ?_|refine v_ct rfl ?_|refine v_cf rfl ?_|(refine v_cd rfl (fun hb=>?_) (fun hb=>?_)<;>try(exfalso;omega)))
     |refine s_r ?_
     |refine b_r ?_
     |refine sk_zero ?_
     |refine sk_succ ?_
     |refine wk_nil ?_
     |refine wk_cons ?_)
    all_goals exact fa_r (fun _ _=>rfl) (Pm.ent (fin ({x with regs:=x.regs.set ka (x.H.lead p.key)}:HX) (h1:=by simp[HX.hdr]))) ⟨_,rfl,rfl,rfl⟩
   ·repeat' (first
     |(refine k_L ?_;first|refine a_p rfl ?_|(refine k_g ?_;refine a_gy rfl rfl ?_)|(refine k_l ?_;first|refine a_l rfl (by exact rd_t (rd_h (rd_sl (fun _=>rfl) gw rfl))) ?_|refine g_l rfl ?_)|(refine k_i ?_;refine g_i rfl rfl ?_)|(refine k_ls ?_;refine g_ls rfl ?_)|(refine k_st ?_;first|refine g_st rfl rfl rfl rfl ?_|refine g_sw rfl rfl rfl rfl (Nat.le_of_ble_eq_true rfl) ?_)|(refine k_al ?_;refine a_al ?_)|(refine k_bx ?_;refine a_bx rfl rfl ?_)|(refine k_q ?_;refine a_q rfl (fun m hm=>l1resolve_q (x:=x) (sep_has hm pmt) fv) ?_)|(refine k_c ?_;refine a_cq rfl (fun m hm=>l5fine_q) ?_))
     |refine a_n ?_
     |(refine k_V ?_;first|refine v_seq ?_|refine v_reg ?_|refine v_dreg ?_|refine v_bs ?_|refine v_ret ?_|refine v_skip ?_|refine v_ct rfl ?_|refine v_cf rfl ?_|(refine v_cd rfl (fun hb=>?_) (fun hb=>?_)<;>try(exfalso;omega)))
     |refine s_r ?_
     |refine b_r ?_
     |refine sk_zero ?_
     |refine sk_succ ?_
     |refine wk_nil ?_
     |refine wk_cons ?_)
    all_goals exact fa_r (fun _ _=>rfl) (Pm.ent (fin ({x with regs:=x.regs.set ka (x.H.lead p.val)}:HX) (h1:=by simp[HX.hdr]))) ⟨_,rfl,rfl,rfl⟩
 ·rw[if_pos hk]
  rcases ho with rfl|rfl
  ·repeat' (first
    |(refine k_L ?_;first|refine a_p rfl ?_|(refine k_g ?_;refine a_gn rfl rfl ?_)|(refine k_l ?_;first|refine a_l rfl (by exact rd_t (rd_h (rd_sl (fun _=>rfl) gw rfl))) ?_|refine g_l rfl ?_)|(refine k_i ?_;refine g_i rfl rfl ?_)|(refine k_st ?_;refine g_sw rfl rfl rfl rfl (Nat.le_of_ble_eq_true rfl) ?_)|(refine k_al ?_;refine a_al ?_)|(refine k_bx ?_;refine a_bx rfl rfl ?_)|(refine k_c ?_;refine a_cq rfl (fun m hm=>l5bad_q) ?_))
    |refine a_n ?_
    |(refine k_V ?_;first|refine v_seq ?_|refine v_reg ?_|refine v_ret ?_|refine v_ct rfl ?_|(refine v_cn rfl (fun hb=>?_) (fun hb=>?_)<;>try(exfalso;omega)))
    |refine s_r ?_
    |refine sk_zero ?_
    |refine sk_succ ?_
    |refine wk_nil ?_
    |refine wk_cons ?_)
   all_goals exact fa_r (fun _ _=>rfl) (Pm.ent pmt) ⟨x,rfl,rfl,rfl⟩
  ·repeat' (first
    |(refine k_L ?_;first|refine a_p rfl ?_|(refine k_g ?_;refine a_gy rfl rfl ?_)|(refine k_l ?_;first|refine a_l rfl (by exact rd_t (rd_h (rd_sl (fun _=>rfl) gw rfl))) ?_|refine g_l rfl ?_)|(refine k_i ?_;refine g_i rfl rfl ?_)|(refine k_st ?_;refine g_sw rfl rfl rfl rfl (Nat.le_of_ble_eq_true rfl) ?_)|(refine k_al ?_;refine a_al ?_)|(refine k_bx ?_;refine a_bx rfl rfl ?_)|(refine k_c ?_;refine a_cq rfl (fun m hm=>l5bad_q) ?_))
    |refine a_n ?_
    |(refine k_V ?_;first|refine v_seq ?_|refine v_reg ?_|refine v_ret ?_|refine v_ct rfl ?_|(refine v_cn rfl (fun hb=>?_) (fun hb=>?_)<;>try(exfalso;omega)))
    |refine s_r ?_
    |refine sk_zero ?_
    |refine sk_succ ?_
    |refine wk_nil ?_
    |refine wk_cons ?_)
   all_goals exact fa_r (fun _ _=>rfl) (Pm.ent pmt) ⟨x,rfl,rfl,rfl⟩
theorem shadeH_put{H:Heap}{i t k:Nat}{q:Pair}(hi:i<H.cells.length)(ht:t<H.cells.length):(H.putP i k q).shadeH t=(H.shadeH t).putP i k q:=by
 have gC:(H.putP i k q).getC t=if t=i then{H.getC i with pairs:=(H.getC i).pairs.set k q}else H.getC t:=by
  have:(H.putP i k q).getC t=if(t:Int).toNat=i then{H.getC i with pairs:=(H.getC i).pairs.set k q}else H.getC t:=by rw[getC_L,getC_L];exact getL_set hi
  rw[this,Int.toNat_natCast]
 have hcl:((H.putP i k q).getC t).color=(H.getC t).color:=by
  rw[gC];split
  ·rename_i e;rw[e]
  ·rfl
 unfold Heap.shadeH
 rw[hcl]
 have hm:Marking (H.putP i k q)↔Marking H:=Iff.rfl
 by_cases c:Marking H∧(H.getC t).color=0
 ·rw[if_pos c,if_pos ⟨hm.2 c.1,c.2⟩,gC]
  have gD:(H.gray1 t (H.getC t)).getC i=if i=t then(H.getC t).col 1 else H.getC i:=by
   have:(H.gray1 t (H.getC t)).getC i=if(i:Int).toNat=t then(H.getC t).col 1 else H.getC i:=by rw[getC_L,getC_L];exact getL_set ht
   rw[this,Int.toNat_natCast]
  unfold Heap.putP
  rw[gD]
  unfold Heap.gray1
  by_cases e:t=i
  ·subst e
   rw[if_pos rfl,if_pos rfl]
   simp only[List.set_set];rfl
  ·rw[if_neg e,if_neg (fun h=>e h.symm)]
   simp only[Heap.mk.injEq,true_and,and_true]
   exact List.set_comm _ _ (fun h=>e h.symm)
 ·rw[if_neg c,if_neg (fun h=>c ⟨hm.1 h.1,h.2⟩)]
theorem shadeW_put{H:Heap}{i k:Nat}{q:Pair}{w:Word}(hi:i<H.cells.length)(hf:Formed H w):(H.putP i k q).shadeW w=(H.shadeW w).putP i k q:=by
 unfold Heap.shadeW
 by_cases hk:w.kind=2
 ·rw[if_pos hk,if_pos hk]
  have:=hf.at hk
  exact shadeH_put hi (by omega)
 ·rw[if_neg hk,if_neg hk]
theorem l5pair_wr{a:Nat}{x:HX}{op n:Int}{ka kb kc:Nat}(h:Sound x.H)(ha:ka≤15)(hb:kb≤15)(ho:op=7∨op=8):FnA Tryz.prog 136 [ptr a,.agg #[.int .i64 op,.int .i64 ka,.int .i64 kb,.int .i64 kc,.int .i64 n]] (hp a x) (fun v As=>∃z:HX,v=an (doPair x.H ⟨op,ka,kb,kc,n⟩).code (doPair x.H ⟨op,ka,kb,kc,n⟩).num∧As=hp a z∧z.H=(doPair x.H ⟨op,ka,kb,kc,n⟩).heap):=by
 have hl:=x.len
 have hnc:x.hdr.nc=x.xs.length:=rfl
 have hnr:x.hdr.nr=x.regs.length:=rfl
 have h16:x.regs.length=16:=h.r1.regs
 obtain⟨v,gv⟩:∃w,x.regs[kb]?=some w:=⟨_,List.getElem?_eq_getElem (by omega)⟩
 obtain⟨w,gw⟩:∃w,x.regs[ka]?=some w:=⟨_,List.getElem?_eq_getElem (by omega)⟩
 have er:x.H.getR ka=w:=getR_at gw
 obtain⟨r1,r2⟩:=getR_ok h (r:=ka) (by omega) (by omega)
 rw[er]at r1 r2
 refine fnA_of (fun h=>fn136 (by simp) h) ?_
 unfold doPair
 dsimp only
 rw[if_neg (show ¬(op=5∨op=6) by omega),er]
 by_cases hk:w.kind=2
 ·obtain⟨b0,b1,b2,b3⟩:=r2 hk
  obtain⟨j,hj⟩:=Int.eq_ofNat_of_zero_le b0
  obtain⟨wk,wn,wat⟩:=w
  dsimp only at hk hj b1
  subst hk hj
  obtain⟨y,gy,gc⟩:=HX.at (x:=x) (i:=j) (by omega)
  have gk:=HX.gc gy
  rw[if_neg (fun e=>e rfl)]
  dsimp only
  rw[gk,Int.toNat_natCast]
  have hcj:x.H.cells[j]?=some y.c:=gc
  cases hpp:y.c.pairs[kc]? with
  |none=>
   have:=List.getElem?_eq_none_iff.1 hpp
   rcases ho with rfl|rfl
   ·repeat' (first
     |(refine k_L ?_;first|refine a_p rfl ?_|(refine k_g ?_;refine a_gy rfl rfl ?_)|(refine k_l ?_;first|refine a_l rfl (by exact rd_t (rd_h (rd_sl (fun _=>rfl) gw rfl))) ?_|refine g_l rfl ?_)|(refine k_i ?_;refine g_i rfl rfl ?_)|(refine k_st ?_;refine g_sw rfl rfl rfl rfl (Nat.le_of_ble_eq_true rfl) ?_)|(refine k_al ?_;refine a_al ?_)|(refine k_bx ?_;refine a_bx rfl rfl ?_)|(refine k_c ?_;refine a_cq rfl (fun m hm=>l5bad_q) ?_))
     |refine a_n ?_
     |(refine k_V ?_;first|refine v_seq ?_|refine v_reg ?_|refine v_dreg ?_|refine v_ret ?_|refine v_skip ?_|refine v_cf rfl ?_|(refine v_cd rfl (fun hb=>?_) (fun hb=>?_)<;>try(exfalso;omega)))
     |refine s_r ?_
     |refine sk_zero ?_
     |refine sk_succ ?_
     |refine wk_nil ?_
     |refine wk_cons ?_)
    all_goals exact fa_r (fun _ _=>rfl) (Pm.ent pmt) ⟨x,rfl,rfl,rfl⟩
   ·repeat' (first
     |(refine k_L ?_;first|refine a_p rfl ?_|(refine k_g ?_;refine a_gy rfl rfl ?_)|(refine k_l ?_;first|refine a_l rfl (by exact rd_t (rd_h (rd_sl (fun _=>rfl) gw rfl))) ?_|refine g_l rfl ?_)|(refine k_i ?_;refine g_i rfl rfl ?_)|(refine k_st ?_;refine g_sw rfl rfl rfl rfl (Nat.le_of_ble_eq_true rfl) ?_)|(refine k_al ?_;refine a_al ?_)|(refine k_bx ?_;refine a_bx rfl rfl ?_)|(refine k_c ?_;refine a_cq rfl (fun m hm=>l5bad_q) ?_))
     |refine a_n ?_
     |(refine k_V ?_;first|refine v_seq ?_|refine v_reg ?_|refine v_dreg ?_|refine v_ret ?_|refine v_skip ?_|refine v_cf rfl ?_|(refine v_cd rfl (fun hb=>?_) (fun hb=>?_)<;>try(exfalso;omega)))
     |refine s_r ?_
     |refine sk_zero ?_
     |refine sk_succ ?_
     |refine wk_nil ?_
     |refine wk_cons ?_)
    all_goals exact fa_r (fun _ _=>rfl) (Pm.ent pmt) ⟨x,rfl,rfl,rfl⟩
  |some p=>
   have:=(List.getElem?_eq_some_iff.1 hpp).1
   have ev:x.H.getR kb=v:=getR_at gv
   obtain⟨v1,v2⟩:=getR_ok h (r:=kb) (by omega) (by omega)
   rw[ev]at v1 v2
   rcases ho with rfl|rfl
   ·repeat' (first
     |(refine k_L ?_;first|refine a_p rfl ?_|(refine k_g ?_;refine a_gy rfl rfl ?_)|(refine k_l ?_;first|refine a_l rfl (by exact rd_t (rd_h (rd_sl (fun _=>rfl) gw rfl))) ?_|refine g_l rfl ?_)|(refine k_i ?_;refine g_i rfl rfl ?_)|(refine k_ls ?_;refine g_ls rfl ?_)|(refine k_st ?_;refine g_sw rfl rfl rfl rfl (Nat.le_of_ble_eq_true rfl) ?_)|(refine k_al ?_;refine a_al ?_)|(refine k_bx ?_;refine a_bx rfl rfl ?_))
     |refine a_n ?_
     |(refine k_V ?_;first|refine v_seq ?_|refine v_reg ?_|refine v_dreg ?_|refine v_bs ?_|refine v_skip ?_|refine v_ct rfl ?_|refine v_cf rfl ?_|(refine v_cd rfl (fun hb=>?_) (fun hb=>?_)<;>try(exfalso;omega)))
     |refine sk_zero ?_
     |refine sk_succ ?_
     |refine wk_nil ?_
     |refine wk_cons ?_)
    refine a_st rfl rfl rfl rfl (up_t (up_t (up_h (u_pair (p':=⟨v,p.val⟩) gy hpp)))) ?_
    have zH:HX.H {x with xs:=x.xs.set j (y.s_pair kc ⟨v,p.val⟩)}=x.H.putP j kc ⟨v,p.val⟩:=by
     unfold Heap.putP
     rw[gk]
     unfold HX.H
     simp only[List.map_set];rfl
    repeat' (first
     |(refine k_L ?_;first|refine a_p rfl ?_|(refine k_l ?_;refine g_l rfl ?_)|(refine k_i ?_;refine g_i rfl rfl ?_)|(refine k_ls ?_;refine g_ls rfl ?_))
     |refine a_n ?_
     |(refine k_V ?_;first|refine v_seq ?_|refine v_dreg ?_))
    rw[show((kc:Int)).toNat=kc from rfl]
    refine LA.ent (Pm.ent (fin ({x with xs:=x.xs.set j (y.s_pair kc ⟨v,p.val⟩)}:HX) (e1:=by simp[HX.hdr]))) ?_
    refine g_c rfl (l3shade_a (x:={x with xs:=x.xs.set j (y.s_pair kc ⟨v,p.val⟩)}) (w:=v) (fun hk=>by rw[zH];have:=v1.at hk;show _∧_<((x.H.cells.set j _).length:Int);rw[List.length_set];exact this) (by have:=h.r1.gray;have:=h.r1.cells;have:=h.r1.room;show x.gray.length≤_;have e:x.H.gray.length=x.gray.length:=rfl;omega)) (fun v' As' hq=>?_)
    obtain⟨u,rfl,rfl,hu,_⟩:=hq
    repeat' (first
     |(refine k_L ?_;first|(refine k_st ?_;refine g_sw rfl rfl rfl rfl (Nat.le_of_ble_eq_true rfl) ?_)|(refine k_c ?_;refine a_cq rfl (fun m hm=>l5fine_q) ?_))
     |refine a_n ?_
     |(refine k_V ?_;first|refine v_seq ?_|refine v_reg ?_|refine v_ret ?_)
     |refine sk_zero ?_
     |refine sk_succ ?_
     |refine wk_nil ?_
     |refine wk_cons ?_)
    all_goals exact fa_r (fun _ _=>rfl) (Pm.ent pmt) ⟨u,rfl,rfl,by rw[hu,zH,shadeW_put (by omega) v1,ev];rfl⟩
   ·repeat' (first
     |(refine k_L ?_;first|refine a_p rfl ?_|(refine k_g ?_;refine a_gy rfl rfl ?_)|(refine k_l ?_;first|refine a_l rfl (by exact rd_t (rd_h (rd_sl (fun _=>rfl) gw rfl))) ?_|refine g_l rfl ?_)|(refine k_i ?_;refine g_i rfl rfl ?_)|(refine k_ls ?_;refine g_ls rfl ?_)|(refine k_st ?_;refine g_sw rfl rfl rfl rfl (Nat.le_of_ble_eq_true rfl) ?_)|(refine k_al ?_;refine a_al ?_)|(refine k_bx ?_;refine a_bx rfl rfl ?_))
     |refine a_n ?_
     |(refine k_V ?_;first|refine v_seq ?_|refine v_reg ?_|refine v_dreg ?_|refine v_bs ?_|refine v_skip ?_|refine v_cf rfl ?_|(refine v_cd rfl (fun hb=>?_) (fun hb=>?_)<;>try(exfalso;omega)))
     |refine sk_zero ?_
     |refine sk_succ ?_
     |refine wk_nil ?_
     |refine wk_cons ?_)
    refine a_st rfl rfl rfl rfl (up_t (up_t (up_h (u_pair (p':=⟨p.key,v⟩) gy hpp)))) ?_
    have zH:HX.H {x with xs:=x.xs.set j (y.s_pair kc ⟨p.key,v⟩)}=x.H.putP j kc ⟨p.key,v⟩:=by
     unfold Heap.putP
     rw[gk]
     unfold HX.H
     simp only[List.map_set];rfl
    repeat' (first
     |(refine k_L ?_;first|refine a_p rfl ?_|(refine k_l ?_;refine g_l rfl ?_)|(refine k_i ?_;refine g_i rfl rfl ?_)|(refine k_ls ?_;refine g_ls rfl ?_))
     |refine a_n ?_
     |(refine k_V ?_;first|refine v_seq ?_|refine v_dreg ?_))
    rw[show((kc:Int)).toNat=kc from rfl]
    refine LA.ent (Pm.ent (fin ({x with xs:=x.xs.set j (y.s_pair kc ⟨p.key,v⟩)}:HX) (e1:=by simp[HX.hdr]))) ?_
    refine g_c rfl (l3shade_a (x:={x with xs:=x.xs.set j (y.s_pair kc ⟨p.key,v⟩)}) (w:=v) (fun hk=>by rw[zH];have:=v1.at hk;show _∧_<((x.H.cells.set j _).length:Int);rw[List.length_set];exact this) (by have:=h.r1.gray;have:=h.r1.cells;have:=h.r1.room;show x.gray.length≤_;have e:x.H.gray.length=x.gray.length:=rfl;omega)) (fun v' As' hq=>?_)
    obtain⟨u,rfl,rfl,hu,_⟩:=hq
    repeat' (first
     |(refine k_L ?_;first|(refine k_st ?_;refine g_sw rfl rfl rfl rfl (Nat.le_of_ble_eq_true rfl) ?_)|(refine k_c ?_;refine a_cq rfl (fun m hm=>l5fine_q) ?_))
     |refine a_n ?_
     |(refine k_V ?_;first|refine v_seq ?_|refine v_reg ?_|refine v_ret ?_)
     |refine sk_zero ?_
     |refine sk_succ ?_
     |refine wk_nil ?_
     |refine wk_cons ?_)
    all_goals exact fa_r (fun _ _=>rfl) (Pm.ent pmt) ⟨u,rfl,rfl,by rw[hu,zH,shadeW_put (by omega) v1,ev];rfl⟩
 ·rw[if_pos hk]
  rcases ho with rfl|rfl
  ·repeat' (first
    |(refine k_L ?_;first|refine a_p rfl ?_|(refine k_g ?_;refine a_gy rfl rfl ?_)|(refine k_l ?_;first|refine a_l rfl (by exact rd_t (rd_h (rd_sl (fun _=>rfl) gw rfl))) ?_|refine g_l rfl ?_)|(refine k_i ?_;refine g_i rfl rfl ?_)|(refine k_st ?_;refine g_sw rfl rfl rfl rfl (Nat.le_of_ble_eq_true rfl) ?_)|(refine k_al ?_;refine a_al ?_)|(refine k_bx ?_;refine a_bx rfl rfl ?_)|(refine k_c ?_;refine a_cq rfl (fun m hm=>l5bad_q) ?_))
    |refine a_n ?_
    |(refine k_V ?_;first|refine v_seq ?_|refine v_reg ?_|refine v_ret ?_|refine v_skip ?_|refine v_cf rfl ?_|(refine v_cn rfl (fun hb=>?_) (fun hb=>?_)<;>try(exfalso;omega)))
    |refine s_r ?_
    |refine sk_zero ?_
    |refine sk_succ ?_
    |refine wk_nil ?_
    |refine wk_cons ?_)
   all_goals exact fa_r (fun _ _=>rfl) (Pm.ent pmt) ⟨x,rfl,rfl,rfl⟩
  ·repeat' (first
    |(refine k_L ?_;first|refine a_p rfl ?_|(refine k_g ?_;refine a_gy rfl rfl ?_)|(refine k_l ?_;first|refine a_l rfl (by exact rd_t (rd_h (rd_sl (fun _=>rfl) gw rfl))) ?_|refine g_l rfl ?_)|(refine k_i ?_;refine g_i rfl rfl ?_)|(refine k_st ?_;refine g_sw rfl rfl rfl rfl (Nat.le_of_ble_eq_true rfl) ?_)|(refine k_al ?_;refine a_al ?_)|(refine k_bx ?_;refine a_bx rfl rfl ?_)|(refine k_c ?_;refine a_cq rfl (fun m hm=>l5bad_q) ?_))
    |refine a_n ?_
    |(refine k_V ?_;first|refine v_seq ?_|refine v_reg ?_|refine v_ret ?_|refine v_skip ?_|refine v_cf rfl ?_|(refine v_cn rfl (fun hb=>?_) (fun hb=>?_)<;>try(exfalso;omega)))
    |refine s_r ?_
    |refine sk_zero ?_
    |refine sk_succ ?_
    |refine wk_nil ?_
    |refine wk_cons ?_)
   all_goals exact fa_r (fun _ _=>rfl) (Pm.ent pmt) ⟨x,rfl,rfl,rfl⟩
theorem l5cell_a{a:Nat}{x:HX}{op n:Int}{ka kb kc:Nat}(h:Sound x.H)(ha:ka≤15)(ho:op=11∨op=16∨op=17):FnA Tryz.prog 137 [ptr a,.agg #[.int .i64 op,.int .i64 ka,.int .i64 kb,.int .i64 kc,.int .i64 n]] (hp a x) (fun v As=>∃z:HX,v=an (doCell x.H ⟨op,ka,kb,kc,n⟩).code (doCell x.H ⟨op,ka,kb,kc,n⟩).num∧As=hp a z∧z.H=(doCell x.H ⟨op,ka,kb,kc,n⟩).heap):=by
 have hl:=x.len
 have hnc:x.hdr.nc=x.xs.length:=rfl
 have hnr:x.hdr.nr=x.regs.length:=rfl
 have h16:x.regs.length=16:=h.r1.regs
 obtain⟨w,gw⟩:∃w,x.regs[ka]?=some w:=⟨_,List.getElem?_eq_getElem (by omega)⟩
 have er:x.H.getR ka=w:=getR_at gw
 obtain⟨r1,r2⟩:=getR_ok h (r:=ka) (by omega) (by omega)
 rw[er]at r1 r2
 refine fnA_of (fun h=>fn137 (by simp) h) ?_
 unfold doCell
 dsimp only
 rw[er]
 by_cases hk:w.kind=2
 ·obtain⟨b0,b1,b2,b3⟩:=r2 hk
  obtain⟨j,hj⟩:=Int.eq_ofNat_of_zero_le b0
  obtain⟨wk,wn,wat⟩:=w
  dsimp only at hk hj b1
  subst hk hj
  obtain⟨y,gy,gc⟩:=HX.at (x:=x) (i:=j) (by omega)
  have gk:=HX.gc gy
  rw[if_neg (fun e=>e rfl)]
  dsimp only
  rw[gk]
  rcases ho with rfl|rfl|rfl
  ·repeat' (first
    |(refine k_L ?_;first|refine a_p rfl ?_|(refine k_l ?_;refine g_l rfl ?_)|(refine k_i ?_;refine g_i rfl rfl ?_)|(refine k_ls ?_;refine g_ls rfl ?_)|(refine k_st ?_;first|refine g_st rfl rfl rfl rfl ?_|refine g_sw rfl rfl rfl rfl (Nat.le_of_ble_eq_true rfl) ?_)|(refine k_al ?_;refine a_al ?_)|(refine k_bx ?_;refine a_bx rfl rfl ?_)|(refine k_c ?_;refine a_cq rfl (fun m hm=>l5fine_q) ?_))
    |refine a_n ?_
    |(refine k_V ?_;first|refine v_seq ?_|refine v_reg ?_|refine v_dreg ?_|refine v_bs ?_|refine v_ret ?_|refine v_skip ?_|refine v_ct rfl ?_|refine v_cf rfl ?_)
    |refine sk_zero ?_
    |refine sk_succ ?_
    |refine wk_nil ?_
    |refine wk_cons ?_)
   refine fa_r (fun _ _=>rfl) (Pm.ent (fin ({x with xs:=x.xs.set j (y.s_weak kc)}:HX) (e1:=by simp[HX.hdr]))) ⟨_,rfl,rfl,?_⟩
   show _=x.H.putW j kc
   unfold Heap.putW
   rw[gk]
   unfold HX.H
   simp only[List.map_set];rfl
  ·repeat' (first
    |(refine k_L ?_;first|refine a_p rfl ?_|(refine k_l ?_;refine g_l rfl ?_)|(refine k_i ?_;refine g_i rfl rfl ?_)|(refine k_ls ?_;refine g_ls rfl ?_)|(refine k_st ?_;refine g_sw rfl rfl rfl rfl (Nat.le_of_ble_eq_true rfl) ?_)|(refine k_al ?_;refine a_al ?_)|(refine k_bx ?_;refine a_bx rfl rfl ?_)|(refine k_q ?_;refine a_q rfl (fun m hm=>l5fine_q) ?_))
    |refine a_n ?_
    |(refine k_V ?_;first|refine v_seq ?_|refine v_reg ?_|refine v_dreg ?_|refine v_bs ?_|refine v_ret ?_|refine v_skip ?_|refine v_ct rfl ?_|refine v_cf rfl ?_)
    |refine s_r ?_
    |refine b_r ?_
    |refine sk_zero ?_
    |refine sk_succ ?_
    |refine wk_nil ?_
    |refine wk_cons ?_)
   all_goals exact fa_r (fun _ _=>rfl) (Pm.ent pmt) ⟨x,rfl,rfl,rfl⟩
  ·repeat' (first
    |(refine k_L ?_;first|refine a_p rfl ?_|(refine k_l ?_;refine g_l rfl ?_)|(refine k_i ?_;refine g_i rfl rfl ?_)|(refine k_ls ?_;refine g_ls rfl ?_)|(refine k_st ?_;refine g_sw rfl rfl rfl rfl (Nat.le_of_ble_eq_true rfl) ?_)|(refine k_al ?_;refine a_al ?_)|(refine k_bx ?_;refine a_bx rfl rfl ?_)|(refine k_q ?_;refine a_q rfl (fun m hm=>l5fine_q) ?_))
    |refine a_n ?_
    |(refine k_V ?_;first|refine v_seq ?_|refine v_reg ?_|refine v_dreg ?_|refine v_bs ?_|refine v_ret ?_|refine v_skip ?_|refine v_ct rfl ?_|refine v_cf rfl ?_)
    |refine s_r ?_
    |refine b_r ?_
    |refine sk_zero ?_
    |refine sk_succ ?_
    |refine wk_nil ?_
    |refine wk_cons ?_)
   all_goals exact fa_r (fun _ _=>rfl) (Pm.ent pmt) ⟨x,rfl,rfl,rfl⟩
 ·rw[if_pos hk]
  repeat' (first
   |(refine k_L ?_;first|refine a_p rfl ?_|(refine k_l ?_;refine g_l rfl ?_)|(refine k_i ?_;refine g_i rfl rfl ?_)|(refine k_ls ?_;refine g_ls rfl ?_)|(refine k_st ?_;refine g_sw rfl rfl rfl rfl (Nat.le_of_ble_eq_true rfl) ?_)|(refine k_al ?_;refine a_al ?_)|(refine k_bx ?_;refine a_bx rfl rfl ?_)|(refine k_c ?_;refine a_cq rfl (fun m hm=>l5bad_q) ?_))
   |refine a_n ?_
   |(refine k_V ?_;first|refine v_seq ?_|refine v_reg ?_|refine v_dreg ?_|refine v_ret ?_|(refine v_cn rfl (fun hb=>?_) (fun hb=>?_)<;>try(exfalso;omega)))
   |refine s_r ?_
   |refine sk_zero ?_
   |refine sk_succ ?_
   |refine wk_nil ?_
   |refine wk_cons ?_)
  all_goals exact fa_r (fun _ _=>rfl) (Pm.ent pmt) ⟨x,rfl,rfl,rfl⟩
theorem shadeH_putL{H:Heap}{i t:Nat}{q:Int}(hi:i<H.cells.length)(ht:t<H.cells.length):(H.putL i q).shadeH t=(H.shadeH t).putL i q:=by
 have gC:(H.putL i q).getC t=if t=i then{H.getC i with last:=q}else H.getC t:=by
  have:(H.putL i q).getC t=if(t:Int).toNat=i then{H.getC i with last:=q}else H.getC t:=by rw[getC_L,getC_L];exact getL_set hi
  rw[this,Int.toNat_natCast]
 have hcl:((H.putL i q).getC t).color=(H.getC t).color:=by
  rw[gC];split
  ·rename_i e;rw[e]
  ·rfl
 unfold Heap.shadeH
 rw[hcl]
 have hm:Marking (H.putL i q)↔Marking H:=Iff.rfl
 by_cases c:Marking H∧(H.getC t).color=0
 ·rw[if_pos c,if_pos ⟨hm.2 c.1,c.2⟩,gC]
  have gD:(H.gray1 t (H.getC t)).getC i=if i=t then(H.getC t).col 1 else H.getC i:=by
   have:(H.gray1 t (H.getC t)).getC i=if(i:Int).toNat=t then(H.getC t).col 1 else H.getC i:=by rw[getC_L,getC_L];exact getL_set ht
   rw[this,Int.toNat_natCast]
  unfold Heap.putL
  rw[gD]
  unfold Heap.gray1
  by_cases e:t=i
  ·subst e
   rw[if_pos rfl,if_pos rfl]
   simp only[List.set_set];rfl
  ·rw[if_neg e,if_neg (fun h=>e h.symm)]
   simp only[Heap.mk.injEq,true_and,and_true]
   exact List.set_comm _ _ (fun h=>e h.symm)
 ·rw[if_neg c,if_neg (fun h=>c ⟨hm.1 h.1,h.2⟩)]
theorem shadeW_putL{H:Heap}{i:Nat}{q:Int}{w:Word}(hi:i<H.cells.length)(hf:Formed H w):(H.putL i q).shadeW w=(H.shadeW w).putL i q:=by
 unfold Heap.shadeW
 by_cases hk:w.kind=2
 ·rw[if_pos hk,if_pos hk]
  have:=hf.at hk
  exact shadeH_putL hi (by omega)
 ·rw[if_neg hk,if_neg hk]
theorem l5cell_b{a:Nat}{x:HX}{op n:Int}{ka kb kc:Nat}(h:Sound x.H)(ha:ka≤15)(ho:op=10∨op=12):FnA Tryz.prog 137 [ptr a,.agg #[.int .i64 op,.int .i64 ka,.int .i64 kb,.int .i64 kc,.int .i64 n]] (hp a x) (fun v As=>∃z:HX,v=an (doCell x.H ⟨op,ka,kb,kc,n⟩).code (doCell x.H ⟨op,ka,kb,kc,n⟩).num∧As=hp a z∧z.H=(doCell x.H ⟨op,ka,kb,kc,n⟩).heap):=by
 have hl:=x.len
 have hnc:x.hdr.nc=x.xs.length:=rfl
 have hnr:x.hdr.nr=x.regs.length:=rfl
 have h16:x.regs.length=16:=h.r1.regs
 obtain⟨w,gw⟩:∃w,x.regs[ka]?=some w:=⟨_,List.getElem?_eq_getElem (by omega)⟩
 have er:x.H.getR ka=w:=getR_at gw
 obtain⟨r1,r2⟩:=getR_ok h (r:=ka) (by omega) (by omega)
 rw[er]at r1 r2
 refine fnA_of (fun h=>fn137 (by simp) h) ?_
 unfold doCell
 dsimp only
 rw[er]
 by_cases hk:w.kind=2
 ·obtain⟨b0,b1,b2,b3⟩:=r2 hk
  obtain⟨j,hj⟩:=Int.eq_ofNat_of_zero_le b0
  obtain⟨wk,wn,wat⟩:=w
  dsimp only at hk hj b1 b2
  subst hk hj
  obtain⟨y,gy,gc⟩:=HX.at (x:=x) (i:=j) (by omega)
  have gk:=HX.gc gy
  have hpl:=h.r2.pl (List.mem_of_getElem? gc)
  rw[if_neg (fun e=>e rfl)]
  dsimp only
  rw[Int.toNat_natCast]
  rcases ho with rfl|rfl
  ·repeat' (first
    |(refine k_L ?_;first|refine a_p rfl ?_|(refine k_l ?_;refine g_l rfl ?_)|(refine k_i ?_;refine g_i rfl rfl ?_)|(refine k_ls ?_;refine g_ls rfl ?_)|(refine k_st ?_;refine g_sw rfl rfl rfl rfl (Nat.le_of_ble_eq_true rfl) ?_)|(refine k_al ?_;refine a_al ?_)|(refine k_bx ?_;refine a_bx rfl rfl ?_)|(refine k_c ?_;refine a_cq rfl (fun m hm=>l5fine_q) ?_)|(refine g_c rfl (l5cut_a (x:=x) (i:=j) (n:=kc) h (by omega) b2) (fun v As' hq=>?_);obtain⟨z,rfl,hz⟩:=hq))
    |refine a_n ?_
    |(refine k_V ?_;first|refine v_seq ?_|refine v_reg ?_|refine v_dreg ?_|refine v_bs ?_|refine v_ret ?_|refine v_skip ?_|refine v_ct rfl ?_|refine v_cf rfl ?_)
    |refine sk_zero ?_
    |refine sk_succ ?_
    |refine wk_nil ?_
    |refine wk_cons ?_)
   all_goals exact fa_r (fun _ _=>rfl) (Pm.ent pmt) ⟨z,rfl,rfl,hz⟩
  ·have zH:HX.H {x with xs:=x.xs.set j (y.s_last kc)}=x.H.putL j kc:=by
    unfold Heap.putL
    rw[gk]
    unfold HX.H
    simp only[List.map_set];rfl
   by_cases hc1:(kc:Int)=1
   ·have hkc:kc=1:=by omega
    subst hkc
    rw[if_pos hc1]
    repeat' (first
     |(refine k_L ?_;first|refine a_p rfl ?_|(refine k_l ?_;refine g_l rfl ?_)|(refine k_i ?_;refine g_i rfl rfl ?_)|(refine k_ls ?_;refine g_ls rfl ?_)|(refine k_st ?_;first|refine g_st rfl rfl rfl rfl ?_|refine g_sw rfl rfl rfl rfl (Nat.le_of_ble_eq_true rfl) ?_)|(refine k_al ?_;refine a_al ?_)|(refine k_bx ?_;refine a_bx rfl rfl ?_))
     |refine a_n ?_
     |(refine k_V ?_;first|refine v_seq ?_|refine v_reg ?_|refine v_dreg ?_|refine v_bs ?_|refine v_skip ?_|refine v_ct rfl ?_|refine v_cf rfl ?_)
     |refine sk_zero ?_
     |refine sk_succ ?_
     |refine wk_nil ?_
     |refine wk_cons ?_)
    refine LA.ent (Pm.ent (fin ({x with xs:=x.xs.set j (y.s_last (1:Nat))}:HX) (e1:=by simp[HX.hdr]))) ?_
    refine g_c rfl (l3shade_a (x:={x with xs:=x.xs.set j (y.s_last (1:Nat))}) (w:=⟨2,wn,j⟩) (fun hk=>by rw[zH];have:=r1.at hk;show _∧_<((x.H.cells.set j _).length:Int);rw[List.length_set];exact this) (by have:=h.r1.gray;have:=h.r1.cells;have:=h.r1.room;show x.gray.length≤_;have e:x.H.gray.length=x.gray.length:=rfl;omega)) (fun v' As' hq=>?_)
    obtain⟨u,rfl,rfl,hu,_⟩:=hq
    repeat' (first
     |(refine k_L ?_;first|(refine k_st ?_;refine g_sw rfl rfl rfl rfl (Nat.le_of_ble_eq_true rfl) ?_)|(refine k_c ?_;refine a_cq rfl (fun m hm=>l5fine_q) ?_))
     |refine a_n ?_
     |(refine k_V ?_;first|refine v_seq ?_|refine v_reg ?_|refine v_ret ?_)
     |refine sk_zero ?_
     |refine sk_succ ?_
     |refine wk_nil ?_
     |refine wk_cons ?_)
    all_goals exact fa_r (fun _ _=>rfl) (Pm.ent pmt) ⟨u,rfl,rfl,by rw[hu,zH,shadeW_putL (by omega) r1];rfl⟩
   ·rw[if_neg hc1]
    repeat' (first
     |(refine k_L ?_;first|refine a_p rfl ?_|(refine k_l ?_;refine g_l rfl ?_)|(refine k_i ?_;refine g_i rfl rfl ?_)|(refine k_ls ?_;refine g_ls rfl ?_)|(refine k_st ?_;first|refine g_st rfl rfl rfl rfl ?_|refine g_sw rfl rfl rfl rfl (Nat.le_of_ble_eq_true rfl) ?_)|(refine k_al ?_;refine a_al ?_)|(refine k_bx ?_;refine a_bx rfl rfl ?_)|(refine k_c ?_;refine a_cq rfl (fun m hm=>l5fine_q) ?_))
     |refine a_n ?_
     |(refine k_V ?_;first|refine v_seq ?_|refine v_reg ?_|refine v_dreg ?_|refine v_bs ?_|refine v_ret ?_|refine v_skip ?_|refine v_ct rfl ?_|refine v_cf rfl ?_|(refine v_cd rfl (fun hb=>?_) (fun hb=>?_)<;>try(exfalso;omega)))
     |refine sk_zero ?_
     |refine sk_succ ?_
     |refine wk_nil ?_
     |refine wk_cons ?_)
    all_goals exact fa_r (fun _ _=>rfl) (Pm.ent (fin ({x with xs:=x.xs.set j (y.s_last kc)}:HX) (e1:=by simp[HX.hdr]))) ⟨_,rfl,rfl,zH⟩
 ·rw[if_pos hk]
  rcases ho with rfl|rfl
  ·repeat' (first
    |(refine k_L ?_;first|refine a_p rfl ?_|(refine k_l ?_;refine g_l rfl ?_)|(refine k_i ?_;refine g_i rfl rfl ?_)|(refine k_ls ?_;refine g_ls rfl ?_)|(refine k_st ?_;refine g_sw rfl rfl rfl rfl (Nat.le_of_ble_eq_true rfl) ?_)|(refine k_al ?_;refine a_al ?_)|(refine k_bx ?_;refine a_bx rfl rfl ?_)|(refine k_c ?_;refine a_cq rfl (fun m hm=>l5bad_q) ?_))
    |refine a_n ?_
    |(refine k_V ?_;first|refine v_seq ?_|refine v_reg ?_|refine v_dreg ?_|refine v_ret ?_|(refine v_cn rfl (fun hb=>?_) (fun hb=>?_)<;>try(exfalso;omega)))
    |refine s_r ?_
    |refine sk_zero ?_
    |refine sk_succ ?_
    |refine wk_nil ?_
    |refine wk_cons ?_)
   all_goals exact fa_r (fun _ _=>rfl) (Pm.ent pmt) ⟨x,rfl,rfl,rfl⟩
  ·repeat' (first
    |(refine k_L ?_;first|refine a_p rfl ?_|(refine k_l ?_;refine g_l rfl ?_)|(refine k_i ?_;refine g_i rfl rfl ?_)|(refine k_ls ?_;refine g_ls rfl ?_)|(refine k_st ?_;refine g_sw rfl rfl rfl rfl (Nat.le_of_ble_eq_true rfl) ?_)|(refine k_al ?_;refine a_al ?_)|(refine k_bx ?_;refine a_bx rfl rfl ?_)|(refine k_c ?_;refine a_cq rfl (fun m hm=>l5bad_q) ?_))
    |refine a_n ?_
    |(refine k_V ?_;first|refine v_seq ?_|refine v_reg ?_|refine v_dreg ?_|refine v_ret ?_|(refine v_cn rfl (fun hb=>?_) (fun hb=>?_)<;>try(exfalso;omega)))
    |refine s_r ?_
    |refine sk_zero ?_
    |refine sk_succ ?_
    |refine wk_nil ?_
    |refine wk_cons ?_)
   all_goals exact fa_r (fun _ _=>rfl) (Pm.ent pmt) ⟨x,rfl,rfl,rfl⟩
end Go.Proofs.YtcjmodomfilagaaGreat.E
namespace Go.Proofs.YtcjmodomfilagaaGreat.E
open Go
noncomputable def e135:Env:=⟨Tryz.prog,[3,4,6,73],105,[(5,0),(10,7),(11,7),(13,9)]⟩
abbrev jE(a0:Nat)(a1:Int)(a2:Int)(a3:Int)(a4:Int)(a5:Int)(a6:Int)(a7:Int)(a8:Nat)(a9:Nat)(a10:Nat)(a11:Nat)(a12:Int)(a13:Nat)(a14:Nat)(a15:Nat)(a16:Nat)(a17:Nat)(a18:Nat)(a19:Nat)(a20:Nat)(a21:Nat):I:=⟨some a0,none,.build [.int .i64 a1,.int .i64 a2,.int .i64 a3,.int .i64 a4,.int .i64 a5,.int .i64 a6,.int .i64 a7,.slice none a8 a9] [(a10,a11,.const (.int .i64 a12)),(a13,a14,.tmp a15),(a16,a17,.tmp a18),(a19,a20,.tmp a21)]⟩
noncomputable def c135:C:=
 .seq (.reg [zZ 3 1,qR 4 0 0]) (.seq (.reg [z4 8 3 3,z5 9 1 8,zi 10 1 9,z3 5 10]) (.seq (.seq (.reg [z3 11 0,z6 12 11,z4 13 2 12,z5 14 1 13,z7 15 14 1000000000,z3 16 15,zP 17 16 0,zP 18 16 5,qN 19 16 142 17 18,zf 20 16 19,zO 21 16 20]) (.cond (.tmp 21) (.seq (.reg [zn 22 134 4,z8 2 4 22]) .ret) .skip)) (.seq (.reg [z3 23 0,z6 24 23,z4 25 2 24,z5 26 1 25,zN 27 26 1,z6 28 23,z4 29 2 28,z8 1 29
 27]) (.seq (.hreg [3,4,73] [z4 30 2 3,z5 31 1 30,z3 32 0,z6 33 32,z4 34 2 33,z5 35 1 34,z4 36 3 3,z5 37 1 36] (.alt ⟨some 38,none,.mkslice 6 48 [.int .i64 0,.int .i64 0,.int .i64 0,.int .i64 0,.int .i64 0,.int .i64 0] (.tmp 37) (.tmp 37)⟩ (.alt (jE 39 0 0 0 0 0 0 0 0 0 0 1 1 1 1 31 4 1 35 7 1 38) (.alt (zX 6 0 0 0 0 0 0 0 0 0) (.alf (z8 8 6 39) (.done) (.none)) (.none)) (.alt (zX 6 0 0 0 0 0 0 0
 0 0) (.alt (jE 39 0 0 0 0 0 0 0 0 0 0 1 1 1 1 31 4 1 35 7 1 38) (.alf (z8 8 6 39) (.done) (.none)) (.none)) (.none))) (.alt (zX 6 0 0 0 0 0 0 0 0 0) (.alt ⟨some 38,none,.mkslice 6 48 [.int .i64 0,.int .i64 0,.int .i64 0,.int .i64 0,.int .i64 0,.int .i64 0] (.tmp 37) (.tmp 37)⟩ (.alt (jE 39 0 0 0 0 0 0 0 0 0 0 1 1 1 1 31 4 1 35 7 1 38) (.alf (z8 8 6 39) (.done) (.none)) (.none)) (.none))
 (.none)))) (.seq (.reg [z3 40 0,zM 41 129 40,z3 7 41]) (.seq (.seq (.reg [z3 42 0,zM 43 132 42,z3 44 43,zP 45 44 0,zY 46 44 45,zI 47 44 5 46,zK 48 44 1 47,q0 49 44 48 3,zP 50 44 49,zF 51 50 7,zF 52 50 0,zR 53 50 52,zE 54 50 6 53,zD 55 50 1 54,qn 56 50 51 55,q9 57 44 50 56,zO 58 44 57]) (.cond (.tmp 58) (.reg [z4 59 5 6,qH 1 59 2]) .skip)) (.seq (.seq (.reg [z3 60 7,z3 61 0,z6 62 61,z4 63 4 62,
 z5 64 1 63,zG 65 64,qA 66 60 65]) (.cond (.tmp 66) (.dreg 7 [z3 67 0,z3 68 0,z6 69 68,z4 70 4 69,z5 71 1 70,zA 72 8 6,jC 73 1 8 0 0 0 0 0 0 0 0 0 0 8 72,jD 74 8 80 0 0 0 0 0 0 0 0 0 71 73,z6 75 67,z4 76 4 75,z8 1 76 74]) (.dreg 7 [z3 77 0,z6 78 77,z4 79 4 78,z5 80 1 79,z3 81 7,zA 82 8 6,z9 83 8 80 81,z8 8 83 82]))) (.seq (.reg [z3 84 0,z6 85 84,z4 86 1 85,z5 87 1 86,z3 88 5,q7 89 87 88,z6 90
 84,z4 91 1 90,z8 1 91 89]) (.seq (.dreg 9 [z3 92 0,z6 93 92,z4 94 3 93,z5 95 1 94,z4 96 1 3,z5 97 1 96,z3 98 7,qE 99 0 0 0 0 1 2 2 1 98,z9 100 3 95 97,z8 3 100 99]) (.seq (.reg [z3 101 0,z3 102 5,zU 103 143 101 102]) (.seq (.reg [zn 104 138 0,z8 2 4 104]) .ret)))))))))))
theorem t135:Tryz.f135.body.bind (trC e135)=some c135:=by kernel_rfl
theorem r135:Tryz.f135.results.toList.mapM (trR Tryz.prog)=some [.cell 4 false 2]:=by kernel_rfl
theorem fn135{args:List Value}{M:Mem}{post:Value→Mem→Prop}(hl:args.length≤105)(h:VC e135 c135 (fnQ [.cell 4 false 2] post) (initS args 105) M):Fn Tryz.prog 135 args M post:=
 Fn.of' (E:=e135) Tryz.func135 t135 rfl r135 mixed hl h
noncomputable def e144:Env:=⟨Tryz.prog,[3,4,66],84,[(1,17),(6,9),(10,0),(11,9)]⟩
noncomputable def c144:C:=
 .seq (.reg [zZ 3 1,qR 4 0 0]) (.seq (.dreg 17 [z3 8 0,z6 9 8,z4 10 4 9,z5 11 1 10,z3 12 0,z6 13 12,z4 14 3 13,z5 15 1 14,z4 16 1 3,z5 17 1 16,z9 18 3 15 17,z4 19 2 18,z5 20 1 19,z9 21 8 11 20,z4 22 7 21,z5 23 1 22,zG 24 23,z3 5 24]) (.seq (.seq (.reg [z3 25 5,z4 26 3 3,z5 27 1 26,q7 28 25 27,zz 29 28 200]) (.cond (.tmp 29) (.seq (.reg [zn 30 134 5,z8 2 4 30]) .ret) .skip)) (.seq (.seq (.reg [
 z3 31 0,z4 32 3 3,z5 33 1 32,zU 34 142 31 33,zV 35 34]) (.cond (.tmp 35) (.seq (.reg [zn 36 134 4,z8 2 4 36]) .ret) .skip)) (.seq (.dreg 9 [z3 37 0,z6 38 37,z4 39 3 38,z5 40 1 39,z4 41 1 3,z5 42 1 41,z9 43 3 40 42,z4 44 2 43,z5 45 1 44,z3 6 45]) (.seq (.seq (.reg [zC 7 0]) (.block 0 (.loop (.seq (.seq (.reg [z3 46 7,z4 47 3 3,z5 48 1 47,zQ 49 46 48]) (.cond (.tmp 49) .skip (.exit 0))) (.seq
 (.block 1 (.hreg [3,4] [z3 52 0,z6 53 52,z4 54 4 53,z5 55 1 54,z3 56 6,z3 57 0,z6 58 57,z4 59 4 58,z5 60 1 59,z3 61 6,z9 62 8 60 61,z4 63 7 62,z5 64 1 63,⟨some 65,none,.build [.int .i64 0,.int .i64 0,.int .i64 0,.int .i64 0,.int .i64 0,.int .i64 0] []⟩] (.alt (qv 66 1 6 0 0 0 0 0 0 0 6 65) (.alt (qk 67 6 48 0 0 0 0 0 0 64 66) (.alf (z9 68 8 55 56) (.alf (z4 69 7 68) (.alf (z8 1 69 67) (.done)
 (.none)) (.none)) (.none)) (.none)) (.none)))) (.reg [z3 50 7,zN 51 50 1,z3 7 51])))))) (.seq (.dreg 9 [z3 70 0,z6 71 70,z4 72 1 71,z5 73 1 72,z4 74 3 3,z5 75 1 74,q7 76 73 75,z6 77 70,z4 78 1 77,z8 1 78 76]) (.seq (.reg [z3 79 0,z4 80 3 3,z5 81 1 80,zU 82 143 79 81]) (.seq (.reg [zn 83 138 0,z8 2 4 83]) .ret))))))))
theorem t144:Tryz.f144.body.bind (trC e144)=some c144:=by kernel_rfl
theorem r144:Tryz.f144.results.toList.mapM (trR Tryz.prog)=some [.cell 4 false 2]:=by kernel_rfl
theorem fn144{args:List Value}{M:Mem}{post:Value→Mem→Prop}(hl:args.length≤84)(h:VC e144 c144 (fnQ [.cell 4 false 2] post) (initS args 84) M):Fn Tryz.prog 144 args M post:=
 Fn.of' (E:=e144) Tryz.func144 t144 rfl r144 mixed hl h
end Go.Proofs.YtcjmodomfilagaaGreat.E
