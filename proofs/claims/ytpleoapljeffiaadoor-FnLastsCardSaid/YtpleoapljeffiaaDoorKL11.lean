/- A part of the proof. Conditions: none. -/
import Derived.Test.YtpleoapljeffiaaDoorKL10
import Derived.LaidMore
import Derived.OpenVars
import Derived.ChangeArms
import Derived.Test.YtpleoapljeffiaaDoorRows
import Derived.Stop.Joined
set_option linter.unusedVariables false
set_option linter.unusedSimpArgs false
set_option maxHeartbeats 8000000
set_option maxRecDepth 100000
namespace Go.Proofs.YtpleoapljeffiaaDoor.E
open Go
open Classical
theorem like_us{H K:Heap}(h:Like H K)(u s:Int):Like H {K with used:=u,sub:=s}:=⟨h.len,h.cell,h.regs,h.gray,h.phase,h.hand,h.room,h.born,h.per,h.start,h.rounds,h.forced⟩
theorem keyw_no{c:Cell}(h:IntKind.i64.wrap (BitVec.ofInt IntKind.i64.bits c.weak&&&BitVec.ofInt IntKind.i64.bits 1).toNat≠0):¬KeyW c:=h
theorem keyw_yes{c:Cell}(h:IntKind.i64.wrap (BitVec.ofInt IntKind.i64.bits c.weak&&&BitVec.ofInt IntKind.i64.bits 1).toNat=0):KeyW c:=h
theorem valw_no{c:Cell}(h:IntKind.i64.wrap (BitVec.ofInt IntKind.i64.bits c.weak&&&BitVec.ofInt IntKind.i64.bits 2).toNat≠0):¬ValW c:=h
theorem valw_yes{c:Cell}(h:IntKind.i64.wrap (BitVec.ofInt IntKind.i64.bits c.weak&&&BitVec.ofInt IntKind.i64.bits 2).toNat=0):ValW c:=h
abbrev stR(H:Heap)(a b1 b2:Nat)(sd:D):List Asr:=[bx b1 [ptr a],bx b2 [.slice sd.a (heldL H).length sd.cap],slA 1 bv sd (heldL H)]
abbrev lostV(b1 b2:Nat):Value:=.func (.func 61) #[] #[ptr b1,ptr b2]
noncomputable def HX.ck(z:HX)(H:Heap)(c:Cell)(i k:Nat):HX:={z with used:=z.used-nGone H c (c.pairs.take k),sub:=if H.walkedI=i then z.sub-nGone H c (c.pairs.take (min k z.sub.toNat))else z.sub}
theorem ck_0(z:HX)(H:Heap)(c:Cell)(i:Nat):z.ck H c i 0=z:=by
 unfold HX.ck
 have e:nGone H c (c.pairs.take 0)=0:=rfl
 rw[Nat.zero_min,e]
 simp
theorem take_s{c:Cell}{k:Nat}{p:Pair}(hp:c.pairs[k]?=some p):c.pairs.take (k+1)=c.pairs.take k++[p]:=by rw[List.take_add_one,hp];rfl
theorem ck_keep{z:HX}{H:Heap}{c:Cell}{i k:Nat}{p:Pair}(hp:c.pairs[k]?=some p)(hg:¬GoneP H c p):z.ck H c i (k+1)=z.ck H c i k:=by
 unfold HX.ck
 have e1:nGone H c (c.pairs.take (k+1))=nGone H c (c.pairs.take k):=by rw[take_s hp,nGone_app,nGone_one,if_neg hg];rfl
 have e2:nGone H c (c.pairs.take (min (k+1) z.sub.toNat))=nGone H c (c.pairs.take (min k z.sub.toNat)):=by
  by_cases h:k<z.sub.toNat
  ·rw[Nat.min_eq_left (by omega),Nat.min_eq_left (by omega),e1]
  ·rw[Nat.min_eq_right (by omega),Nat.min_eq_right (by omega)]
 rw[e1,e2]
theorem ck_gone{z:HX}{H:Heap}{c:Cell}{i k:Nat}{p:Pair}(hp:c.pairs[k]?=some p)(hg:GoneP H c p):z.ck H c i (k+1)={z.ck H c i k with used:=(z.ck H c i k).used-1,sub:=if H.walkedI=i∧(k:Int)<z.sub then(z.ck H c i k).sub-1 else(z.ck H c i k).sub}:=by
 have e1:nGone H c (c.pairs.take (k+1))=nGone H c (c.pairs.take k)+1:=by rw[take_s hp,nGone_app,nGone_one,if_pos hg]
 have hu:(z.ck H c i (k+1)).used=(z.ck H c i k).used-1:=by
  show z.used-(nGone H c (c.pairs.take (k+1)):Nat)=z.used-(nGone H c (c.pairs.take k):Nat)-1
  rw[e1];omega
 have hs:(z.ck H c i (k+1)).sub=if H.walkedI=i∧(k:Int)<z.sub then(z.ck H c i k).sub-1 else(z.ck H c i k).sub:=by
  show(if H.walkedI=i then z.sub-(nGone H c (c.pairs.take (min (k+1) z.sub.toNat)):Nat)else z.sub)=if H.walkedI=i∧(k:Int)<z.sub then(if H.walkedI=i then z.sub-(nGone H c (c.pairs.take (min k z.sub.toNat)):Nat)else z.sub)-1 else(if H.walkedI=i then z.sub-(nGone H c (c.pairs.take (min k z.sub.toNat)):Nat)else z.sub)
  by_cases hw:H.walkedI=i
  ·by_cases h:(k:Int)<z.sub
   ·have m1:min (k+1) z.sub.toNat=k+1:=by omega
    have m2:min k z.sub.toNat=k:=by omega
    rw[m1,m2,e1]
    simp only[hw,h,and_self,if_true]
    omega
   ·have m1:min (k+1) z.sub.toNat=z.sub.toNat:=by omega
    have m2:min k z.sub.toNat=z.sub.toNat:=by omega
    rw[m1,m2]
    simp only[hw,h,and_false,if_true,if_false]
  ·simp only[hw,false_and,if_false]
 show({z with used:=(z.ck H c i (k+1)).used,sub:=(z.ck H c i (k+1)).sub}:HX)=_
 rw[hu,hs]
 rfl
theorem like_ck{H:Heap}{z:HX}{c:Cell}{i k:Nat}(h:Like H z.H):Like H (z.ck H c i k).H:=like_us h _ _
theorem settle_a{a:Nat}{x:HX}(h:Sound x.H):FnA Tryd.prog 49 [ptr a] (hp a x) (fun v As=>∃z:HX,v=.tuple #[.int .i64 (g1 x.H x.H.cells.length:Nat),.int .i64 (d2 x.H x.H.cells.length:Nat)]∧As=hp a z∧z.H=x.H.settleH):=by
 obtain⟨q1,q2,q3⟩:=sound_gray h
 have hl:=x.len
 have hnc:x.hdr.nc=x.xs.length:=rfl
 have h2:=h.r2
 have hrm:=h.r1.room
 have hsb:=h.r1.sub
 have hus:=h.r3
 have hun:=pairsN_units h2
 have hpn:=pairsN_nonneg x.H.cells
 unfold R3 at hus
 have hln:=heldL_len x.H
 refine fnA_of (fun h=>fn49 (by simp) h) ?_
 repeat' (first
  |(refine k_L ?_;first|refine a_p rfl ?_|(refine k_l ?_;refine g_l rfl ?_)|(refine a_nw (vs:=[ptr a]) rfl rfl (fun b1=>?_))|(refine g_c rfl (fna_ro (q:=fun v E=>∃sd:D,v=.slice sd.a (heldL x.H).length sd.cap∧E=[slA 1 bv sd (heldL x.H)]) (Bs:=hp a x) (fun m hm=>(holds_a (has_star hm) h.r1 h.r2 h.r4).mono (fun v As ⟨sd,e1,e2⟩=>⟨_,⟨sd,e1,rfl⟩,e2⟩))) (fun v As' hq=>?_);obtain⟨_,⟨sd,rfl,rfl⟩,rfl⟩:=hq))
  |refine a_n ?_
  |(refine k_V ?_;first|refine v_seq ?_|refine v_reg ?_))
 refine a_nz (fun b2=>?_)
 repeat' (first
  |(refine k_L ?_;first|refine a_p rfl ?_|(refine k_l ?_;refine g_l rfl ?_)|(refine g_sb rfl rfl rfl rfl ?_))
  |refine a_n ?_
  |(refine k_V ?_;first|refine v_seq ?_|refine v_reg ?_)
  |refine s_n ?_)
 refine g_range x.xs.length (fun q:HX×Nat=>[(1,.v (ptr b1)),(2,.v (.int .i64 q.2)),(3,.v (.int .i64 0)),(4,.v (ptr b2)),(5,.v (lostV b1 b2))]) (fun q=>hp a q.1++stR x.H a b1 b2 sd) (fun i q=>q.1.H=p1 x.H i∧q.2=g1 x.H i) ((x,0):HX×Nat) ⟨rfl,rfl⟩ (fun i q hi hv=>?_) (fun q hv=>?_)
 ·obtain⟨z,g⟩:=q
  obtain⟨hz,hg⟩:=hv
  simp only at hz hg
  subst hg
  dsimp only
  obtain⟨lk,lc,lla,lu,ls1,ls2⟩:=p1_ok x.H i (by omega)
  rw[←hz]at lk lc lla lu ls1 ls2
  have hzl:=z.len
  have hzn:z.hdr.nc=z.xs.length:=rfl
  have hzx:z.xs.length=x.xs.length:=by rw[←hzl,lk.len,hl]
  obtain⟨y,gy,gyc⟩:=HX.at (x:=z) (i:=i) (by omega)
  have gk:=HX.gc gy
  have gx:x.H.getC i=y.c:=by rw[←lc i (Nat.le_refl _)];exact gk
  have gxs:=getL_some (cs:=x.H.cells) (j:=i) (by omega) (by omega)
  rw[Int.toNat_natCast,←getC_L,gx]at gxs
  have hpl:=h2.pl (List.mem_of_getElem? gxs)
  have hg1:=g1_le h2 i
  have hzu:z.used=x.H.used-g1 x.H i:=lu
  have hzs1:x.H.sub-g1 x.H i≤z.sub:=ls1
  have hzs2:z.sub≤x.H.sub:=ls2
  have hgi:=heldL_get (H:=x.H) (j:=i) (by omega)
  have eg:g1 x.H (i+1)=if Held x.H i then g1 x.H i+nGone x.H y.c y.c.pairs else g1 x.H i:=by show(if _ then _ else _)=_;rw[gx]
  have ep:p1 x.H (i+1)=if Held x.H i then x.H.cutC z.H i else z.H:=by show(if _ then _ else _)=_;rw[hz]
  have gy':z.xs[(i:Int).toNat]?=some y:=gy
  by_cases hh:Held x.H i
  ·rw[decide_eq_true hh]at hgi
   rw[if_pos hh]at eg ep
   have hgi':(heldL x.H)[(i:Int).toNat]?=some true:=hgi
   repeat' (first
    |(refine k_L ?_;first|refine a_p rfl ?_|(refine k_l ?_;refine g_l rfl ?_)|(refine k_i ?_;refine g_i rfl rfl ?_))
    |refine a_n ?_
    |(refine k_V ?_;first|refine v_seq ?_|refine v_reg ?_|refine v_skip ?_|refine v_cf rfl ?_)
    |refine s_n ?_)
   refine VA.ent (ent_new (f:=pv) (size:=6)) ?_
   refine g_range y.c.pairs.length (fun q:(List Pair×D)×Nat=>[(2,.v (.int .i64 (g1 x.H i+nGone x.H y.c (y.c.pairs.take q.2):Nat))),(8,.v (.slice q.1.2.a q.1.1.length q.1.2.cap)),(1,.v (ptr b1)),(3,.v (.int .i64 0)),(4,.v (ptr b2)),(5,.v (lostV b1 b2)),(6,.v (.int .i64 i)),(7,.v (.pointer (some ⟨z.cd.b,z.cd.o+i*8,none⟩))),(9,.v (.int .i64 z.sub)),(43,.v (.slice y.d.a y.c.pairs.length y.d.cap)),(22,.v (.int .i64 i)),(21,.v (.int .i64 x.xs.length))]) (fun q=>slA 6 pv q.1.2 q.1.1::(hp a (z.ck x.H y.c i q.2)++stR x.H a b1 b2 sd)) (fun k q=>q.2=k∧q.1.1=kept x.H y.c (y.c.pairs.take k)) ((([],⟨none,0⟩),0):(List Pair×D)×Nat) ⟨rfl,rfl⟩ (fun k q hk hv=>?_) (fun q hv=>?_) (hent:=by
    dsimp only
    rw[ck_0]
    exact Pm.ent pmt)
   ·obtain⟨⟨ps,kd⟩,k0⟩:=q
    obtain⟨hk0,hps⟩:=hv
    simp only at hk0 hps
    subst hps;subst hk0
    dsimp only
    obtain⟨p,gp⟩:∃p,y.c.pairs[k0]?=some p:=⟨_,List.getElem?_eq_getElem hk⟩
    obtain⟨pf1,pf2,_⟩:=h.r4.pairs i y.c gxs k0 p gp
    have gw:=like_ck (z:=z) (c:=y.c) (i:=i) (k:=k0) lk
    have hcu:(z.ck x.H y.c i k0).hdr.used=z.used-nGone x.H y.c (y.c.pairs.take k0):=rfl
    have hcs1:(z.ck x.H y.c i k0).hdr.sub≤z.sub∧z.sub-200≤(z.ck x.H y.c i k0).hdr.sub:=by
     show(if x.H.walkedI=i then z.sub-(nGone x.H y.c (y.c.pairs.take (min k0 z.sub.toNat)):Nat)else z.sub)≤z.sub∧z.sub-200≤(if x.H.walkedI=i then z.sub-(nGone x.H y.c (y.c.pairs.take (min k0 z.sub.toNat)):Nat)else z.sub)
     have:=nGone_le x.H y.c (y.c.pairs.take (min k0 z.sub.toNat))
     have h3:(y.c.pairs.take (min k0 z.sub.toNat)).length≤y.c.pairs.length:=by rw[List.length_take];omega
     split<;>omega
    have hng:nGone x.H y.c (y.c.pairs.take k0)≤200:=by
     have:=nGone_le x.H y.c (y.c.pairs.take k0)
     have h3:(y.c.pairs.take k0).length≤y.c.pairs.length:=by rw[List.length_take];omega
     omega
    have gyk:(z.ck x.H y.c i k0).xs[i]?=some y:=gy
    refine v_seq ?_
    repeat' (first
     |(refine k_L ?_;first|refine a_p rfl ?_|(refine k_i ?_;refine g_i rfl rfl ?_)|(refine k_ls ?_;refine g_ls rfl ?_)|(refine k_st ?_;refine g_sw rfl rfl rfl rfl (Nat.le_of_ble_eq_true rfl) ?_)|(refine k_al ?_;refine a_al ?_))
     |refine a_n ?_
     |(refine k_V ?_;refine v_reg ?_)
     |refine s_n ?_
     |refine sk_zero ?_
     |refine sk_succ ?_
     |refine wk_nil ?_
     |refine wk_cons ?_)
    refine v_seq ?_
    refine g_cut (fun _:Unit=>[(75,.v (.bool (decide (GoneP x.H y.c p)))),(10,.v (.int .i64 k0)),(11,.box (pv p)),(45,.v (.int .i64 k0)),(44,.v (.int .i64 y.c.pairs.length)),(2,.v (.int .i64 (g1 x.H i+nGone x.H y.c (y.c.pairs.take k0):Nat))),(8,.v (.slice kd.a (kept x.H y.c (y.c.pairs.take k0)).length kd.cap)),(1,.v (ptr b1)),(3,.v (.int .i64 0)),(4,.v (ptr b2)),(5,.v (lostV b1 b2)),(6,.v (.int .i64 i)),(7,.v (.pointer (some ⟨z.cd.b,z.cd.o+i*8,none⟩))),(9,.v (.int .i64 z.sub)),(43,.v (.slice y.d.a y.c.pairs.length y.d.cap)),(22,.v (.int .i64 i)),(21,.v (.int .i64 x.xs.length))]) (fun _=>slA 6 pv kd (kept x.H y.c (y.c.pairs.take k0))::(hp a (z.ck x.H y.c i k0)++stR x.H a b1 b2 sd)) (fun _=>True) ?_ (fun _ _=>?_)
    ·repeat' (first
      |(refine k_L ?_;first|refine a_p rfl ?_|(refine k_g ?_;first|refine a_gy rfl rfl ?_|refine a_gn rfl rfl ?_|refine a_gu rfl ?_|(refine a_gd rfl (fun hb=>?_) (fun hb=>?_)<;>try(exfalso;omega))|(refine a_gne rfl (fun hb=>?_) (fun hb=>?_)<;>try(exfalso;omega)))|(refine k_l ?_;refine g_l rfl ?_)|(refine a_cvq rfl (fnOk_of Tryd.func61 rfl rfl) rfl (fun m hm=>lost_q (z:=z.ck x.H y.c i k0) (H:=x.H) (sd:=sd) (w:=p.key) (sep_has hm pmt) (sep_has hm pmt) h2 gw pf1) ?_)|(refine a_cvq rfl (fnOk_of Tryd.func61 rfl rfl) rfl (fun m hm=>lost_q (z:=z.ck x.H y.c i k0) (H:=x.H) (sd:=sd) (w:=p.val) (sep_has hm pmt) (sep_has hm pmt) h2 gw pf2) ?_))
      |refine a_n ?_
      |(refine k_V ?_;refine v_reg ?_)
      |refine s_n ?_)
     ·refine j_i () trivial (hl:=⟨?_,by(repeat(first|exact trivial|refine⟨rfl,?_⟩))⟩)
      exact congrArg SV.v (ret_t (.inl ⟨keyw_no (by assumption),by assumption⟩))
     ·refine j_i () trivial (hl:=⟨?_,by(repeat(first|exact trivial|refine⟨rfl,?_⟩))⟩)
      refine congrArg SV.v (congrArg Value.bool ?_)
      refine decide_eq_decide.2 ⟨fun h=>.inr ⟨valw_no (by assumption),h⟩,fun h=>?_⟩
      rcases h with h|h
      ·exact absurd h.2 (by assumption)
      ·exact h.2
     ·refine j_i () trivial (hl:=⟨?_,by(repeat(first|exact trivial|refine⟨rfl,?_⟩))⟩)
      refine congrArg SV.v (ret_f fun h=>?_)
      rcases h with h|h
      ·exact absurd h.2 (by assumption)
      ·exact h.1 (valw_yes (by assumption))
     ·refine j_i () trivial (hl:=⟨?_,by(repeat(first|exact trivial|refine⟨rfl,?_⟩))⟩)
      refine congrArg SV.v (congrArg Value.bool ?_)
      refine decide_eq_decide.2 ⟨fun h=>.inr ⟨valw_no (by assumption),h⟩,fun h=>?_⟩
      rcases h with h|h
      ·exact absurd (keyw_yes (by assumption)) h.1
      ·exact h.2
     ·refine j_i () trivial (hl:=⟨?_,by(repeat(first|exact trivial|refine⟨rfl,?_⟩))⟩)
      refine congrArg SV.v (ret_f fun h=>?_)
      rcases h with h|h
      ·exact absurd (keyw_yes (by assumption)) h.1
      ·exact h.1 (valw_yes (by assumption))
    have hwk:=gw.walked
    have hkl:(kept x.H y.c (y.c.pairs.take k0)).length≤200:=by
     have:=kept_len x.H y.c (y.c.pairs.take k0)
     have h3:(y.c.pairs.take k0).length≤y.c.pairs.length:=by rw[List.length_take];omega
     omega
    by_cases hG:GoneP x.H y.c p
    ·have eck:=ck_gone (z:=z) (i:=i) gp hG
     have et:nGone x.H y.c (y.c.pairs.take (k0+1))=nGone x.H y.c (y.c.pairs.take k0)+1:=by rw[take_s gp,nGone_app,nGone_one,if_pos hG]
     have ek:kept x.H y.c (y.c.pairs.take (k0+1))=kept x.H y.c (y.c.pairs.take k0):=by rw[take_s gp,kept_app,kept_one,if_pos hG,List.append_nil]
     rw[decide_eq_true hG]
     have hwk1:Heap.walkedI (HX.H {z.ck x.H y.c i k0 with used:=(z.ck x.H y.c i k0).used-1})=x.H.walkedI:=hwk
     have hcs3:((z.ck x.H y.c i k0).hdr.s_used ((z.ck x.H y.c i k0).hdr.used-1)).sub=(z.ck x.H y.c i k0).hdr.sub:=rfl
     have e2:((g1 x.H i+nGone x.H y.c (y.c.pairs.take (k0+1)):Nat):Int)=((g1 x.H i+nGone x.H y.c (y.c.pairs.take k0):Nat):Int)+1:=by rw[et];omega
     repeat' (first
      |(refine k_L ?_;first|(refine k_ad ?_;refine g_ad rfl rfl ?_)|(refine k_su ?_;refine g_su rfl rfl ?_)|refine a_p rfl ?_|(refine k_g ?_;first|refine a_gy rfl rfl ?_|refine a_gn rfl rfl ?_|(refine a_gd rfl (fun hb=>?_) (fun hb=>?_)<;>try(exfalso;omega)))|(refine k_l ?_;refine g_l rfl ?_)|(refine k_st ?_;refine g_st rfl rfl rfl rfl ?_)|(refine k_c ?_;refine a_cq rfl (fun m hm=>qt_e (walked_q (x:={z.ck x.H y.c i k0 with used:=(z.ck x.H y.c i k0).used-1}) (sep_has hm pmt)) (by rw[hwk1])) ?_))
      |refine a_n ?_
      |(refine k_V ?_;first|refine v_seq ?_|refine v_reg ?_|refine v_exit ?_|refine v_skip ?_|refine v_ct rfl ?_|refine v_cf rfl ?_|(refine v_cd rfl (fun hb=>?_) (fun hb=>?_)<;>try(exfalso;omega)))
      |refine s_e ?_)
     ·refine r_ct (((kept x.H y.c (y.c.pairs.take k0),kd),k0+1):(List Pair×D)×Nat) ⟨rfl,ek.symm⟩ (hl:=?_) (he:=?_)
      ·dsimp only
       rw[e2]
       repeat(first|exact trivial|refine⟨rfl,?_⟩)
      ·dsimp only
       rw[eck,if_pos ⟨Eq.symm (by assumption),by assumption⟩]
       exact Pm.ent pmt
     ·refine r_ct (((kept x.H y.c (y.c.pairs.take k0),kd),k0+1):(List Pair×D)×Nat) ⟨rfl,ek.symm⟩ (hl:=?_) (he:=?_)
      ·dsimp only
       rw[e2]
       repeat(first|exact trivial|refine⟨rfl,?_⟩)
      ·dsimp only
       rw[eck,if_neg (fun h=>absurd h.2 (by assumption))]
       exact Pm.ent pmt
     ·refine r_ct (((kept x.H y.c (y.c.pairs.take k0),kd),k0+1):(List Pair×D)×Nat) ⟨rfl,ek.symm⟩ (hl:=?_) (he:=?_)
      ·dsimp only
       rw[e2]
       repeat(first|exact trivial|refine⟨rfl,?_⟩)
      ·dsimp only
       rw[eck,if_neg (fun h=>absurd h.1.symm (by assumption))]
       exact Pm.ent pmt
    ·have eck:=ck_keep (z:=z) (i:=i) gp hG
     have et:nGone x.H y.c (y.c.pairs.take (k0+1))=nGone x.H y.c (y.c.pairs.take k0):=by rw[take_s gp,nGone_app,nGone_one,if_neg hG];rfl
     have ek:kept x.H y.c (y.c.pairs.take (k0+1))=kept x.H y.c (y.c.pairs.take k0)++[p]:=by rw[take_s gp,kept_app,kept_one,if_neg hG]
     rw[decide_eq_false hG]
     repeat' (first
      |(refine k_L ?_;first|refine a_p rfl ?_|(refine k_bl ?_;refine a_bl rfl ?_))
      |refine a_n ?_
      |(refine k_V ?_;first|refine v_reg ?_|refine v_skip ?_|refine v_cf rfl ?_))
     refine g_ap p pv_len rfl rfl rfl (by omega) (fun kd'=>?_)
     repeat' (first
      |(refine k_L ?_;refine a_p rfl ?_)
      |refine a_n ?_)
     refine r_nx (((kept x.H y.c (y.c.pairs.take k0)++[p],kd'),k0+1):(List Pair×D)×Nat) ⟨rfl,by rw[ek]⟩ (hl:=?_) (he:=?_)
     ·dsimp only
      rw[et]
      repeat(first|exact trivial|refine⟨rfl,?_⟩)
     ·dsimp only
      rw[eck]
      exact Pm.ent pmt
   ·obtain⟨⟨ps,kd⟩,k0⟩:=q
    obtain⟨hk0,hps⟩:=hv
    simp only at hk0 hps
    subst hps;subst hk0
    dsimp only
    repeat' (first
     |(refine k_L ?_;refine a_p rfl ?_)
     |refine a_n ?_
     |(refine k_V ?_;refine v_reg ?_))
    have gyk:(z.ck x.H y.c i y.c.pairs.length).xs[i]?=some y:=gy
    rw[List.take_length]
    refine a_cs (kept x.H y.c y.c.pairs) gyk rfl rfl ?_
    repeat' (first
     |(refine k_L ?_;first|(refine k_ad ?_;refine g_ad rfl rfl ?_)|(refine k_su ?_;refine g_su rfl rfl ?_)|(refine k_ml ?_;refine g_ml rfl rfl ?_)|refine a_p rfl ?_|(refine k_g ?_;first|refine a_gy rfl rfl ?_|refine a_gn rfl rfl ?_|refine a_gu rfl ?_|(refine a_gd rfl (fun hb=>?_) (fun hb=>?_)<;>try(exfalso;omega))|(refine a_ge rfl (fun hb=>?_) (fun hb=>?_)<;>try(exfalso;omega))|(refine a_gne rfl (fun hb=>?_) (fun hb=>?_)<;>try(exfalso;omega))|(refine a_gnd rfl (fun hb=>?_) (fun hb=>?_)<;>try(exfalso;omega)))|(refine k_l ?_;refine g_l rfl ?_)|(refine k_i ?_;refine g_i rfl rfl ?_)|(refine k_ls ?_;refine g_ls rfl ?_)|(refine k_st ?_;first|refine g_st rfl rfl rfl rfl ?_|refine g_sw rfl rfl rfl rfl (Nat.le_of_ble_eq_true rfl) ?_)|(refine k_al ?_;refine a_al ?_)|(refine k_bx ?_;refine a_bx rfl rfl ?_)|(refine k_bl ?_;refine a_bl rfl ?_)|(refine k_p ?_;first|(refine a_pd rfl (fun hb=>?_) (fun hb=>?_)<;>try(exfalso;omega))|(refine a_pe rfl (fun hb=>?_) (fun hb=>?_)<;>try(exfalso;omega))|(refine a_pne rfl (fun hb=>?_) (fun hb=>?_)<;>try(exfalso;omega))|(refine a_pnd rfl (fun hb=>?_) (fun hb=>?_)<;>try(exfalso;omega))))
     |refine a_n ?_
     |(refine k_V ?_;first|refine v_rv ?_|refine v_seq ?_|refine v_reg ?_|refine v_dreg ?_|refine v_zreg ?_|refine v_bs ?_|refine v_br ?_|refine v_bd ?_|refine v_bc ?_|refine v_bk ?_|refine v_bb ?_|refine v_ret ?_|refine v_exit ?_|refine v_skip ?_|refine v_ct rfl ?_|refine v_cf rfl ?_|(refine v_cd rfl (fun hb=>?_) (fun hb=>?_)<;>try(exfalso;omega))|(refine v_ce rfl (fun hb=>?_) (fun hb=>?_)<;>try(exfalso;omega))|(refine v_cn rfl (fun hb=>?_) (fun hb=>?_)<;>try(exfalso;omega))|(refine v_cnd rfl (fun hb=>?_) (fun hb=>?_)<;>try(exfalso;omega)))
     |refine s_n ?_
     |refine s_r ?_
     |refine s_e ?_
     |refine b_n ?_
     |refine b_r ?_
     |refine b_e ?_
     |refine b_o rfl ?_
     |refine r_rt ?_
     |refine r_bk rfl ?_
     |refine r_ex rfl rfl ?_
     |refine sk_zero ?_
     |refine sk_succ ?_
     |refine wk_nil ?_
     |refine wk_cons ?_)
    generalize hZ:({z.ck x.H y.c i y.c.pairs.length with xs:=z.xs.set i ⟨{y.c with pairs:=kept x.H y.c y.c.pairs},kd.a,kd.cap⟩}:HX)=Z
    have hd:(z.ck x.H y.c i y.c.pairs.length).hdr=Z.hdr:=by rw[←hZ];simp[HX.hdr,HX.ck]
    have zH:Z.H=x.H.cutC z.H i:=by
     rw[←hZ]
     unfold Heap.cutC
     rw[gk]
     have m1:y.c.pairs.take (min y.c.pairs.length z.sub.toNat)=y.c.pairs.take z.sub.toNat:=by
      rcases Nat.le_total y.c.pairs.length z.sub.toNat with e|e
      ·rw[Nat.min_eq_left e,List.take_length,List.take_of_length_le e]
      ·rw[Nat.min_eq_right e]
     unfold HX.H HX.ck
     simp only[List.map_set,List.take_length,m1]
    refine r_nx ((Z,g1 x.H (i+1)):HX×Nat) ⟨by rw[zH,ep],rfl⟩ (hl:=?_) (he:=?_)
    ·dsimp only
     rw[eg]
     repeat(first|exact trivial|refine⟨rfl,?_⟩)
    ·rw[hd]
     dsimp only
     have e1:Z.rd=z.rd∧Z.regs=z.regs∧Z.cd=z.cd∧Z.gd=z.gd∧Z.gray=z.gray∧Z.xs=z.xs.set i ⟨{y.c with pairs:=kept x.H y.c y.c.pairs},kd.a,kd.cap⟩:=by rw[←hZ];exact⟨rfl,rfl,rfl,rfl,rfl,rfl⟩
     show Ent _ ([hdA a Z.hdr,slA 3 wv Z.rd Z.regs,clA Z.cd Z.xs,slA 1 iv Z.gd Z.gray]++stR x.H a b1 b2 sd)
     rw[e1.1,e1.2.1,e1.2.2.1,e1.2.2.2.1,e1.2.2.2.2.1,e1.2.2.2.2.2]
     exact Pm.ent pmt
  ·rw[decide_eq_false hh]at hgi
   rw[if_neg hh]at eg ep
   have hgi':(heldL x.H)[(i:Int).toNat]?=some false:=hgi
   repeat' (first
    |(refine k_L ?_;first|refine a_p rfl ?_|(refine k_l ?_;refine g_l rfl ?_)|(refine k_i ?_;refine g_i rfl rfl ?_))
    |refine a_n ?_
    |(refine k_V ?_;first|refine v_seq ?_|refine v_reg ?_|refine v_exit ?_|refine v_ct rfl ?_)
    |refine s_e ?_)
   exact r_ct ((z,g1 x.H i):HX×Nat) ⟨ep.symm,eg.symm⟩
 obtain⟨z0,g0⟩:=q
 obtain⟨hz0,hg0⟩:=hv
 simp only at hz0 hg0
 subst hg0
 dsimp only
 obtain⟨lk0,_,lla0,lu0,_⟩:=p1_ok x.H x.H.cells.length (Nat.le_refl _)
 rw[hl]at lk0 lla0 lu0
 rw[←hz0]at lk0
 have hz0n:z0.hdr.nc=z0.xs.length:=rfl
 have hz0l:=z0.len
 have hz0x:z0.xs.length=x.xs.length:=by rw[←hz0l,lk0.len,hl]
 repeat' (first
  |(refine k_L ?_;first|refine a_p rfl ?_|(refine k_l ?_;refine g_l rfl ?_))
  |refine a_n ?_
  |(refine k_V ?_;first|refine v_seq ?_|refine v_reg ?_)
  |refine s_n ?_)
 refine g_range x.xs.length (fun q:HX×Nat=>[(1,.v (ptr b1)),(2,.v (.int .i64 (g1 x.H x.xs.length))),(3,.v (.int .i64 q.2)),(4,.v (ptr b2))]) (fun q=>hp a q.1++stR x.H a b1 b2 sd) (fun i q=>q.1.H=p2 x.H i∧q.2=d2 x.H i) ((z0,0):HX×Nat) ⟨by show z0.H=p1 x.H x.H.cells.length;rw[hz0,hl],rfl⟩ (fun i q hi hv=>?_) (fun q hv=>?_) (hl:=by
  have:z0.hdr.nc=x.xs.length:=by omega
  rw[this]
  repeat(first|exact trivial|refine⟨rfl,?_⟩))
 ·obtain⟨z,d⟩:=q
  obtain⟨hz,hd⟩:=hv
  simp only at hz hd
  subst hd
  dsimp only
  obtain⟨lk,lc,_,_,_⟩:=p2_ok x.H i (by omega)
  rw[←hz]at lk lc
  have hzl:=z.len
  have hzn:z.hdr.nc=z.xs.length:=rfl
  have hzx:z.xs.length=x.xs.length:=by rw[←hzl,lk.len,hl]
  obtain⟨y,gy,gyc⟩:=HX.at (x:=z) (i:=i) (by omega)
  have gk:=HX.gc gy
  have hd2:=d2_le x.H i
  have hlast:y.c.last=(x.H.getC i).last:=by rw[←gk,lc i (Nat.le_refl _),hl];exact lla0 i
  have hst:y.c.state=(x.H.getC i).state:=by rw[←gk];exact(lk.cell i).1
  have gxs:=getL_some (cs:=x.H.cells) (j:=i) (by omega) (by omega)
  rw[Int.toNat_natCast,←getC_L]at gxs
  have hls:y.c.last=1→y.c.state=1:=fun e=>by
   rcases Decidable.em (y.c.state=1)with e2|e2
   ·exact e2
   ·have:=(h2.bare gxs (by rw[←hst];exact e2)).2.2.1
    omega
  have hgi:=heldL_get (H:=x.H) (j:=i) (by omega)
  have ed:d2 x.H (i+1)=if ¬Held x.H i∧y.c.last=1 then d2 x.H i+1 else d2 x.H i:=by show(if _ then _ else _)=_;rw[hlast]
  have ep:p2 x.H (i+1)=if ¬Held x.H i∧y.c.last=1 then{z.H with cells:=z.H.cells.set i {z.H.getC i with last:=2}}else z.H:=by show(if _ then _ else _)=_;rw[hlast,hz]
  have gy':z.xs[(i:Int).toNat]?=some y:=gy
  by_cases hh:Held x.H i
  ·rw[decide_eq_true hh]at hgi
   have hgi':(heldL x.H)[(i:Int).toNat]?=some true:=hgi
   rw[if_neg (fun h=>h.1 hh)]at ed ep
   repeat' (first
    |(refine k_L ?_;first|refine a_p rfl ?_|(refine k_g ?_;first|refine a_gy rfl rfl ?_|refine a_gn rfl rfl ?_|(refine a_gd rfl (fun hb=>?_) (fun hb=>?_)<;>try(exfalso;omega)))|(refine k_l ?_;refine g_l rfl ?_)|(refine k_i ?_;refine g_i rfl rfl ?_))
    |refine a_n ?_
    |(refine k_V ?_;first|refine v_seq ?_|refine v_reg ?_|refine v_skip ?_|refine v_cf rfl ?_))
   all_goals exact r_nx ((z,d2 x.H i):HX×Nat) ⟨ep.symm,ed.symm⟩
  ·rw[decide_eq_false hh]at hgi
   have hgi':(heldL x.H)[(i:Int).toNat]?=some false:=hgi
   by_cases hl1:y.c.last=1
   ·have hs1:=hls hl1
    rw[if_pos ⟨hh,hl1⟩]at ed ep
    repeat' (first
     |(refine k_L ?_;first|(refine k_ad ?_;refine g_ad rfl rfl ?_)|refine a_p rfl ?_|(refine k_g ?_;first|refine a_gy rfl rfl ?_|(refine a_gd rfl (fun hb=>?_) (fun hb=>?_)<;>try(exfalso;omega)))|(refine k_l ?_;refine g_l rfl ?_)|(refine k_i ?_;refine g_i rfl rfl ?_)|(refine k_st ?_;refine g_st rfl rfl rfl rfl ?_))
     |refine a_n ?_
     |(refine k_V ?_;first|refine v_seq ?_|refine v_reg ?_|(refine v_cd rfl (fun hb=>?_) (fun hb=>?_)<;>try(exfalso;omega))))
    generalize hZ:({z with xs:=z.xs.set i (y.s_last 2)}:HX)=Z
    have hdr:z.hdr=Z.hdr:=by rw[←hZ];simp[HX.hdr]
    have zH:Z.H=p2 x.H (i+1):=by
     rw[←hZ,ep,gk]
     unfold HX.H
     simp only[List.map_set]
     rfl
    refine r_nx ((Z,d2 x.H (i+1)):HX×Nat) ⟨zH,rfl⟩ (hl:=?_) (he:=?_)
    ·dsimp only
     rw[ed]
     repeat(first|exact trivial|refine⟨rfl,?_⟩)
    ·rw[hdr]
     dsimp only
     have e1:Z.rd=z.rd∧Z.regs=z.regs∧Z.cd=z.cd∧Z.gd=z.gd∧Z.gray=z.gray∧Z.xs=z.xs.set i (y.s_last 2):=by rw[←hZ];exact⟨rfl,rfl,rfl,rfl,rfl,rfl⟩
     show Ent _ ([hdA a Z.hdr,slA 3 wv Z.rd Z.regs,clA Z.cd Z.xs,slA 1 iv Z.gd Z.gray]++stR x.H a b1 b2 sd)
     rw[e1.1,e1.2.1,e1.2.2.1,e1.2.2.2.1,e1.2.2.2.2.1,e1.2.2.2.2.2]
     exact Pm.ent pmt
   ·rw[if_neg (fun h=>hl1 h.2)]at ed ep
    repeat' (first
     |(refine k_L ?_;first|refine a_p rfl ?_|(refine k_g ?_;first|refine a_gy rfl rfl ?_|refine a_gn rfl rfl ?_|(refine a_gd rfl (fun hb=>?_) (fun hb=>?_)<;>try(exfalso;omega)))|(refine k_l ?_;refine g_l rfl ?_)|(refine k_i ?_;refine g_i rfl rfl ?_))
     |refine a_n ?_
     |(refine k_V ?_;first|refine v_seq ?_|refine v_reg ?_|refine v_skip ?_|refine v_cf rfl ?_|(refine v_cd rfl (fun hb=>?_) (fun hb=>?_)<;>try(exfalso;omega))))
    all_goals exact r_nx ((z,d2 x.H i):HX×Nat) ⟨ep.symm,ed.symm⟩
 ·obtain⟨z,d⟩:=q
  obtain⟨hz,hd⟩:=hv
  simp only at hz hd
  subst hd
  dsimp only
  repeat' (first
   |(refine k_L ?_;refine a_p rfl ?_)
   |refine a_n ?_
   |(refine k_V ?_;first|refine v_seq ?_|refine v_reg ?_|refine v_ret ?_))
  refine fa_r (As':=hp a z) (fun _ _=>rfl) (Pm.ent pmt) ⟨z,?_,rfl,?_⟩
  ·rw[hl]
  ·unfold Heap.settleH
   rw[hz,hl]
theorem getR_at{x:HX}{k:Nat}{w:Word}(h:x.regs[k]?=some w):x.H.getR k=w:=by
 unfold Heap.getR
 show x.regs.getD _ _=w
 rw[List.getD_eq_getElem?_getD,Int.toNat_natCast,h];rfl
theorem shadeH_put{H:Heap}{i t k:Nat}{q:Pair}(hi:i<H.cells.length)(ht:t<H.cells.length):(H.putP i k q).shadeH t=(H.shadeH t).putP i k q:=by
 have gC:(H.putP i k q).getC t=if t=i then{H.getC i with pairs:=(H.getC i).pairs.set k q}else H.getC t:=by
  have:(H.putP i k q).getC t=if(t:Int).toNat=i then{H.getC i with pairs:=(H.getC i).pairs.set k q}else H.getC t:=by rw[getC_L,getC_L];exact getL_set hi
  rw[this,Int.toNat_natCast]
 have hcl:((H.putP i k q).getC t).color=(H.getC t).color:=by
  rw[gC];split
  ·rename_i e;rw[e]
  ·rfl
 unfold Heap.shadeH
 rw[hcl]
 have hm:Marking (H.putP i k q)↔Marking H:=Iff.rfl
 by_cases c:Marking H∧(H.getC t).color=0
 ·rw[if_pos c,if_pos ⟨hm.2 c.1,c.2⟩,gC]
  have gD:(H.gray1 t (H.getC t)).getC i=if i=t then(H.getC t).col 1 else H.getC i:=by
   have:(H.gray1 t (H.getC t)).getC i=if(i:Int).toNat=t then(H.getC t).col 1 else H.getC i:=by rw[getC_L,getC_L];exact getL_set ht
   rw[this,Int.toNat_natCast]
  unfold Heap.putP
  rw[gD]
  unfold Heap.gray1
  by_cases e:t=i
  ·subst e
   rw[if_pos rfl,if_pos rfl]
   simp only[List.set_set];rfl
  ·rw[if_neg e,if_neg (fun h=>e h.symm)]
   simp only[Heap.mk.injEq,true_and,and_true]
   exact List.set_comm _ _ (fun h=>e h.symm)
 ·rw[if_neg c,if_neg (fun h=>c ⟨hm.1 h.1,h.2⟩)]
theorem shadeW_put{H:Heap}{i k:Nat}{q:Pair}{w:Word}(hi:i<H.cells.length)(hf:Formed H w):(H.putP i k q).shadeW w=(H.shadeW w).putP i k q:=by
 unfold Heap.shadeW
 by_cases hk:w.kind=2
 ·rw[if_pos hk,if_pos hk]
  have:=hf.at hk
  exact shadeH_put hi (by omega)
 ·rw[if_neg hk,if_neg hk]
theorem shadeH_putL{H:Heap}{i t:Nat}{q:Int}(hi:i<H.cells.length)(ht:t<H.cells.length):(H.putL i q).shadeH t=(H.shadeH t).putL i q:=by
 have gC:(H.putL i q).getC t=if t=i then{H.getC i with last:=q}else H.getC t:=by
  have:(H.putL i q).getC t=if(t:Int).toNat=i then{H.getC i with last:=q}else H.getC t:=by rw[getC_L,getC_L];exact getL_set hi
  rw[this,Int.toNat_natCast]
 have hcl:((H.putL i q).getC t).color=(H.getC t).color:=by
  rw[gC];split
  ·rename_i e;rw[e]
  ·rfl
 unfold Heap.shadeH
 rw[hcl]
 have hm:Marking (H.putL i q)↔Marking H:=Iff.rfl
 by_cases c:Marking H∧(H.getC t).color=0
 ·rw[if_pos c,if_pos ⟨hm.2 c.1,c.2⟩,gC]
  have gD:(H.gray1 t (H.getC t)).getC i=if i=t then(H.getC t).col 1 else H.getC i:=by
   have:(H.gray1 t (H.getC t)).getC i=if(i:Int).toNat=t then(H.getC t).col 1 else H.getC i:=by rw[getC_L,getC_L];exact getL_set ht
   rw[this,Int.toNat_natCast]
  unfold Heap.putL
  rw[gD]
  unfold Heap.gray1
  by_cases e:t=i
  ·subst e
   rw[if_pos rfl,if_pos rfl]
   simp only[List.set_set];rfl
  ·rw[if_neg e,if_neg (fun h=>e h.symm)]
   simp only[Heap.mk.injEq,true_and,and_true]
   exact List.set_comm _ _ (fun h=>e h.symm)
 ·rw[if_neg c,if_neg (fun h=>c ⟨hm.1 h.1,h.2⟩)]
noncomputable def Heap.counted(H:Heap):Int:=if okH H=0 then sumT H (heldL H) H.cells.length else 0
theorem fna_rd{P:Program}{f:FuncId}{args:List Value}{Bs:List Asr}{v:Value}(h:∀m,star Bs m→FnA P f args [ro m] (fun u As=>u=v∧As=[ro m])):FnA P f args Bs (fun u As=>u=v∧As=Bs):=
 (fna_ro (q:=fun u E=>u=v∧E=[]) fun m hm=>(h m hm).mono fun u As hq=>⟨[],⟨hq.1,rfl⟩,hq.2⟩).mono fun u As hq=>by
   obtain⟨E,⟨h1,rfl⟩,h2⟩:=hq
   exact⟨h1,h2⟩
structure Cod (m:Mem) (ca:Option Addr) (cn:Nat):Prop where
 at_:∀i:Nat,i<cn→∃b o v,ca=some ⟨b,o,none⟩∧cell m b (o+i*1)=some (.int .u8 v)∧0≤v∧v≤255
 bd:cn≤9223372036854775807
theorem wrap64{n:Int}(h: -9223372036854775808≤n∧n≤9223372036854775807):IntKind.i64.wrap n=n:=IntWalk.i64_in n h
theorem rd_cod{m:Mem}{b o:Nat}{v:Value}(h:cell m b o=some v):RdA (ro m) b o v:=⟨fun m' hm=>by
 have hm:m'=m:=hm
 subst hm;exact h⟩
end Go.Proofs.YtpleoapljeffiaaDoor.E
namespace Go.Proofs.YtpleoapljeffiaaDoor.E
open Go Go.ChangeShapes Go.WideShapes Go.ChangeAt Go.RowKit
theorem und_byte:Tryd.prog.underlying 5=some (.int .u8):=by kernel_rfl
theorem cof_byte:Tryd.prog.cellsOf 5=1:=by kernel_rfl
theorem und_bytes:Tryd.prog.underlying 22=some (.slice 5):=by kernel_rfl
theorem ownknob:ownKnob Tryd.prog.godebug=none:=by kernel_rfl
theorem laid:laidOutB Tryd.prog=true:=by kernel_rfl
theorem und_bool:Tryd.prog.underlying 4=some .bool:=by kernel_rfl
section
variable {H:Type} {enc:TypeId×Value→H} {W:World} {spare:Nat→Bool} {held:Bool}
theorem open_byte:∀n cs y,DataW.trod enc Tryd.prog W 0 spare held n 5 cs=some y→∃x:Int,cs=[Value.int .u8 x]∧(0≤x∧x≤255):=by
 intro n cs y h
 obtain⟨k,e,_,hw⟩:=DataW.trod_int und_byte h
 refine⟨k,e,?_⟩
 have h1:IntKind.u8.min=0:=by decide
 have h2:IntKind.u8.max=255:=by decide
 simpa [Lit.wf,h1,h2]using hw
theorem open_bytes{fuel:Nat}{sa:Option Addr}{n cap:Nat}{x:DataW H×List MemPlace}(h:DataW.trod enc Tryd.prog W 0 spare held fuel 22 (Value.slice sa n cap).cells.toList=some x):Cod (memOf W) sa n:=by
 obtain⟨v,xs,e,hsl,hq⟩:=open_sl (f:=fun v:Int=>[Value.int .u8 v]) (size:=1) (Q:=fun v=>0≤v∧v≤255) (fun _=>rfl) (by omega) und_bytes cof_byte open_byte h
 have e:v=.slice sa n cap:=by simp[Value.cells]at e;exact e.symm
 subst e
 have hbd:=hsl.bound
 have hn:n=xs.length:=by
  obtain⟨a,c,e⟩:=hsl.len
  cases e;rfl
 subst hn
 refine⟨fun i hi=>?_,hbd⟩
 obtain⟨b,o,e,hc⟩:=hsl.at2 (fun _=>rfl) (List.getElem?_eq_getElem hi)
 have:=hq _ (List.getElem_mem hi)
 exact⟨b,o,xs[i],e,cells_cell (j:=0) hc rfl,this⟩
end
section
variable {H:Type} {enc:TypeId×Value→H} {P:Program} {W:World} {spare:Nat→Bool} {held:Bool}
theorem open_slD{α:Type}[Inhabited α]{f:α→List Value}{size:Nat}{R:DataW H→α→Prop}{t e:TypeId}{fuel:Nat}{cs:List Value}{ds sp:List (DataW H)}{pl:List MemPlace}(hs:∀x,(f x).length=size)(hs0:0<size)
 (ht:P.underlying t=some (.slice e)) (hc:P.cellsOf e=size) (he:∀n cs y,DataW.trod enc P W 0 spare held n e cs=some y→∃x,cs=f x∧R y.1 x)
 (h:DataW.trod enc P W 0 spare held fuel t cs=some (.slice ds sp,pl)):∃v xs,cs=[v]∧SlR (memOf W) size f v xs∧xs.length=ds.length∧∀(i:Nat) d y,ds[i]?=some d→xs[i]?=some y→R d y:=by
 rcases Deep.open_slice ht h with⟨rfl,h0⟩|⟨a,len,cap,m,n,D,Pl,rfl,_,hlc,hcm,hm,hx,hel⟩
 ·cases h0
 ·simp only[Prod.mk.injEq,DataW.slice.injEq]at hx
  obtain⟨⟨hds,_⟩,_⟩:=hx
  have hlm:len≤m:=by rw[hm];split<;>omega
  obtain⟨X,hX⟩:=Deep.choose_lt (n:=len) (p:=fun i y=>W.cells? 0 (a.add (i*size)) size=some (f y)∧R (D i) y) (fun i hi=>by
   obtain⟨cs',h1,h2⟩:=hel i (by omega)
   obtain⟨y,rfl,hq⟩:=he _ _ _ h2
   rw[hc]at h1
   exact⟨y,h1,hq⟩)
  refine⟨_,(List.range len).map X,rfl,?_,by rw[hds];simp,?_⟩
  ·by_cases h0:len=0
   ·subst h0;exact .inl ⟨_,_,rfl,rfl⟩
   ·obtain⟨c,u,fr,hsp,hh,_,_⟩:=cells_heap (hX 0 (by omega)).1 hs0
    have e0:a.add (0*size)=a:=by unfold Addr.add;simp
    rw[e0]at hsp hh
    have ea:a=⟨a.block,a.off,none⟩:=by cases a;simp only at hsp;subst hsp;rfl
    have hcell:∀i,i<len→∀j,j<size→c.toList[a.off+i*size+j]?=(f (X i))[j]?∧a.off+i*size+j<c.size:=by
     intro i hi j hj
     obtain⟨c',u',fr',hsp',hh',_,hj'⟩:=cells_heap (hX i hi).1 hs0
     have e1:a.add (i*size)=⟨a.block,a.off+i*size,none⟩:=by rw[ea];exact add_none _ _ _
     rw[e1]at hh' hj'
     rw[hh]at hh'
     cases hh'
     obtain⟨k1,k2⟩:=hj' j hj
     exact⟨by rw[Array.getElem?_toList];exact k1,k2⟩
    have hlast:=(hcell (len-1) (by omega) (size-1) (by omega)).2
    have hml:(len-1)*size+size=len*size:=by rw[←Nat.succ_mul];congr 1;omega
    refine .inr ⟨a.block,a.off,cap,c.toList,?_,.inr ⟨u,fr,memOf_cells hh⟩,?_,?_,?_⟩
    ·rw[←ea];simp
    ·simp;simp[maxLen]at hcm;omega
    ·simp only[List.length_map,List.length_range,Array.length_toList];omega
    ·simp only[List.length_map,List.length_range]
     exact flat_of hs _ _ X len (fun i hi j hj=>(hcell i hi j hj).1)
  ·intro i d y hd hy
   rw[hds,List.getElem?_map]at hd
   rw[List.getElem?_map]at hy
   cases hr:(List.range len)[i]? with
   |none=>rw[hr]at hd;cases hd
   |some k=>
    rw[hr]at hd hy
    simp only[Option.map_some,Option.some.injEq]at hd hy
    subst hd;subst hy
    have:k<len:=List.mem_range.1 (List.mem_of_getElem? hr)
    exact(hX k this).2
end
structure Form where
 nm:ByteArray
 a:Int
 b:Int
 c:Int
 n:Bool
instance:Inhabited Form:=⟨⟨⟨#[]⟩,0,0,0,false⟩⟩
def fmV(f:Form):List Value:=[.string f.nm,.int .i64 f.a,.int .i64 f.b,.int .i64 f.c,.bool f.n]
def fmD{H:Type}(f:Form):DataW H:=.agg [.lit (.string f.nm.data.toList),.lit (.int .i64 f.a),.lit (.int .i64 f.b),.lit (.int .i64 f.c),.lit (.bool f.n)]
theorem und_form:Tryd.prog.underlying 71=some (.struct (fsOf Tryd.prog 71)):=by kernel_rfl
theorem fs_form:(fsOf Tryd.prog 71).toList.map (fun f=>(f.type,f.offset))=[(9,0),(3,1),(3,2),(3,3),(4,4)]:=by kernel_rfl
theorem und_forms:Tryd.prog.underlying 72=some (.slice 71):=by kernel_rfl
theorem cof_form:Tryd.prog.cellsOf 71=5:=by kernel_rfl
theorem fund_int:Tryd.prog.underlying 3=some (.int .i64):=by kernel_rfl
theorem fund_str:Tryd.prog.underlying 9=some .string:=by kernel_rfl
theorem fund_bool:Tryd.prog.underlying 4=some .bool:=by kernel_rfl
theorem fcof_int:Tryd.prog.cellsOf 3=1:=by kernel_rfl
theorem fcof_str:Tryd.prog.cellsOf 9=1:=by kernel_rfl
theorem fcof_bool:Tryd.prog.cellsOf 4=1:=by kernel_rfl
section
variable {H:Type} {enc:TypeId×Value→H} {W:World} {spare:Nat→Bool} {held:Bool}
theorem open_form:∀n cs y,DataW.trod enc Tryd.prog W 0 spare held n 71 cs=some y→∃x,cs=fmV x∧y.1=fmD x:=by
 intro n cs y h
 obtain⟨xs,k,_,rfl,hl,hlen,hf⟩:=DataW.trod_struct und_form h
 have hfs:=fs_form
 have hget:∀(i:Nat) u o,[(9,0),(3,1),(3,2),(3,3),(4,4)][i]?=some (u,o)→DataW.trod enc Tryd.prog W 0 spare held k u ((cs.drop o).take (Tryd.prog.cellsOf u))=xs[i]?:=fun i u o hi=>by
  rw[←hfs,List.getElem?_map]at hi
  cases hg:(fsOf Tryd.prog 71).toList[i]? with
  |none=>rw[hg]at hi;cases hi
  |some f=>
   rw[hg]at hi
   simp only[Option.map_some,Option.some.injEq,Prod.mk.injEq]at hi
   obtain⟨rfl,rfl⟩:=hi
   exact hf i f (by rw[←Array.getElem?_toList];exact hg)
 have hx5:xs.length=5:=by
  rw[hlen,←Array.length_toList]
  have:=congrArg List.length hfs
  rw[List.length_map]at this;exact this
 match xs,hx5,hget with
 |[x0,x1,x2,x3,x4],_,hget=>
  obtain⟨s,a0,b0,_⟩:=DataW.trod_string fund_str (hget 0 _ _ rfl)
  obtain⟨i1,a1,b1,_⟩:=DataW.trod_int fund_int (hget 1 _ _ rfl)
  obtain⟨i2,a2,b2,_⟩:=DataW.trod_int fund_int (hget 2 _ _ rfl)
  obtain⟨i3,a3,b3,_⟩:=DataW.trod_int fund_int (hget 3 _ _ rfl)
  obtain⟨b4,a4,c4⟩:=DataW.trod_bool fund_bool (hget 4 _ _ rfl)
  rw[fcof_str]at a0
  rw[fcof_int]at a1 a2 a3
  rw[fcof_bool]at a4
  have e0:=take_one a0
  have e1:=take_one a1
  have e2:=take_one a2
  have e3:=take_one a3
  have e4:=take_one a4
  refine⟨⟨s,i1,i2,i3,b4⟩,?_,by subst b0;subst b1;subst b2;subst b3;subst c4;rfl⟩
  have hl5:cs.length=5:=by rw[hl];exact cof_form
  match cs,hl5,e0,e1,e2,e3,e4 with
  |[v0,v1,v2,v3,v4],_,e0,e1,e2,e3,e4=>
   simp only[List.getElem?_cons_zero,List.getElem?_cons_succ,Option.some.injEq]at e0 e1 e2 e3 e4
   subst e0;subst e1;subst e2;subst e3;subst e4;rfl
end
end Go.Proofs.YtpleoapljeffiaaDoor.E
namespace Go.Proofs.YtpleoapljeffiaaDoor.E
open Go
noncomputable def e37:Env:=⟨Tryd.prog,[1,3],44,[]⟩
abbrev zm(a0:Nat)(a1:Int)(a2:Int):I:=⟨some a0,none,.alloc true [.int .i64 a1,.int .i64 a2]⟩
abbrev qA(a0:Nat)(a1:Nat)(a2:Nat):I:=⟨some a0,none,.bin .leq (.tmp a1) (.tmp a2)⟩
abbrev qU(a0:Nat)(a1:Nat)(a2:Nat):I:=⟨some a0,none,.bin .neq (.tmp a1) (.tmp a2)⟩
abbrev qV(a0:Nat)(a1:Int)(a2:Int)(a3:Nat)(a4:Nat)(a5:Nat):I:=⟨some a0,none,.build [.int .i64 a1,.int .i64 a2] [(a3,a4,.tmp a5)]⟩
noncomputable def c37:C:=
 .seq (.reg [zN 1 0,zO 2]) (.seq (.seq (.reg [z4 4 0 1,z5 5 1 4,qM 6 26 5 1 24,zY 7 6]) (.cond (.tmp 7) (.seq (.reg [zO 2]) .ret) .skip)) (.seq (.reg [⟨some 8,none,.load true 1 (.global 0)⟩,z4 9 0 1,z5 10 1 9,z9 11 5 8 10,z8 12 5 11,⟨some 3,none,.alloc true [.string ⟨#[]⟩,.int .i64 0,.int .i64 0,.int .i64 0,.bool false]⟩,z7 5 3 12]) (.seq (.reg [z4 13 1 1,z5 14 1 13,z4 15 1 3,z5 16 1 15,⟨some
 17,none,.max (.tmp 16) (.const (.int .i64 0))⟩,⟨some 18,none,.call 26 [.tmp 14,.const (.int .i64 0),.tmp 17]⟩,z3 19 18,zI 20 19 2 1,zE 21 19 1 20,zI 22 19 2 3,zE 23 19 1 22,⟨some 24,some (19,true),.max (.tmp 23) (.const (.int .i64 0))⟩,⟨some 25,some (19,true),.call 26 [.tmp 21,.const (.int .i64 0),.tmp 24]⟩,zJ 26 19 25,z3 27 26,zI 28 27 3 1,zE 29 27 1 28,zI 30 27 3 3,zE 31 27 1 30,⟨some 32,some
 (27,true),.max (.tmp 31) (.const (.int .i64 0))⟩,⟨some 33,some (27,true),.call 26 [.tmp 29,.const (.int .i64 0),.tmp 32]⟩,zJ 34 27 33,z3 35 34,zI 36 35 4 3,zE 37 35 1 36,zF 38 35 37,zT 39 38 4 1,zP 40 38 1 39,zy 41 38 40 0,qK 42 35 38 41,zJ 43 35 42,z3 2 43]) .ret)))
theorem t37:Tryd.f37.body.bind (trC e37)=some c37:=by kernel_rfl
theorem r37:Tryd.f37.results.toList.mapM (trR Tryd.prog)=some [.tmp 2]:=by kernel_rfl
theorem fn37{args:List Value}{M:Mem}{post:Value→Mem→Prop}(hl:args.length≤44)(h:VC e37 c37 (fnQ [.tmp 2] post) (initS args 44) M):Fn Tryd.prog 37 args M post:=
 Fn.of' (E:=e37) Tryd.func37 t37 rfl r37 mixed hl h
end Go.Proofs.YtpleoapljeffiaaDoor.E
namespace Go.Proofs.YtpleoapljeffiaaDoor.E
open Go
open Classical
def formsL:List Form:=[⟨⟨#[]⟩,0,0,0,false⟩,⟨⟨#[110,101,119]⟩,15,255,200,false⟩,⟨⟨#[110,117,109]⟩,15,-1,-1,true⟩,⟨⟨#[110,105,108]⟩,15,-1,-1,false⟩,⟨⟨#[99,111,112,121]⟩,15,15,-1,false⟩,⟨⟨#[107,101,121]⟩,15,15,199,false⟩,⟨⟨#[118,97,108]⟩,15,15,199,false⟩,⟨⟨#[115,101,116,107,101,121]⟩,15,15,199,false⟩,⟨⟨#[115,101,116,118,97,108]⟩,15,15,199,false⟩,⟨⟨#[103,114,111,119]⟩,15,-1,200,false⟩,⟨⟨#[99,117,116]⟩,15,-1,200,false⟩,⟨⟨#[119,101,97,107]⟩,15,-1,3,false⟩,⟨⟨#[108,97,115,116]⟩,15,-1,1,false⟩,⟨⟨#[115,97,109,101]⟩,15,15,-1,false⟩,⟨⟨#[119,111,114,100]⟩,15,-1,-1,false⟩,⟨⟨#[110,117,109,98,101,114]⟩,15,-1,-1,false⟩,⟨⟨#[107,105,110,100]⟩,15,-1,-1,false⟩,⟨⟨#[115,105,122,101]⟩,15,-1,-1,false⟩,⟨⟨#[115,101,116,116,108,101]⟩,-1,-1,-1,false⟩,⟨⟨#[100,117,101]⟩,15,-1,-1,false⟩,⟨⟨#[99,111,117,110,116]⟩,-1,-1,-1,false⟩,⟨⟨#[108,105,118,101]⟩,-1,-1,-1,false⟩,⟨⟨#[115,116,101,112]⟩,-1,-1,100000,false⟩,⟨⟨#[112,97,99,101]⟩,-1,64,4000,false⟩,⟨⟨#[114,111,117,110,100]⟩,-1,-1,-1,false⟩]
structure Frm (m:Mem):Prop where
 out:∃b o cap,cell m 0 0=some (.slice (some ⟨b,o,none⟩) 25 cap)∧∀(i:Nat) F,formsL[i]?=some F→cells m b (o+i*5) 5=some (fmV F)
theorem Frm.le{m m':Mem}(h:Frm m)(l:m.le m'):Frm m':=by
 obtain⟨b,o,cap,h1,h2⟩:=h.out
 exact⟨b,o,cap,cell_le l h1,fun i F hF=>cells_le l (h2 i F hF)⟩
theorem rd_gl{m:Mem}{b o:Nat}{v:Value}(h:cell m b o=some v):RdA (ro m) b o v:=⟨fun m' hm=>by
 have hm:m'=m:=hm
 subst hm;exact h⟩
theorem rs_cods{m:Mem}{b o n:Nat}{vs:List Value}(h:cells m b o n=some vs):RsA (ro m) b o n vs:=⟨fun m' hm=>by
 have hm:m'=m:=hm
 subst hm;exact h⟩
theorem form_ok{op:Int}(h:1≤op∧op≤24):∃F,formsL[op.toNat]?=some F∧aMost op=(if F.a<0 then 0 else F.a)∧bMost op=(if F.b<0 then 0 else F.b)∧cMost op=(if F.c<0 then 0 else F.c)∧(F.n=true↔op=2):=by
 have e:op=1∨op=2∨op=3∨op=4∨op=5∨op=6∨op=7∨op=8∨op=9∨op=10∨op=11∨op=12∨op=13∨op=14∨op=15∨op=16∨op=17∨op=18∨op=19∨op=20∨op=21∨op=22∨op=23∨op=24:=by omega
 rcases e with rfl|rfl|rfl|rfl|rfl|rfl|rfl|rfl|rfl|rfl|rfl|rfl|rfl|rfl|rfl|rfl|rfl|rfl|rfl|rfl|rfl|rfl|rfl|rfl<;>
  exact⟨_,rfl,by simp[aMost],by simp[bMost],by simp[cMost],by simp⟩
theorem implActOk_q{m:Mem}{a:Act}(hf:Frm m):Qt Tryd.prog 37 [actV a] m (.bool (decide (ActP a))):=by
 refine qt_of (fnA_of (fun h=>fn37 (by simp) h) ?_)
 obtain⟨b,o,cap,h1,h2⟩:=hf.out
 by_cases hop:1≤a.op∧a.op≤24
 ·obtain⟨⟨nm,ra,rb,rc,rn⟩,hF,fa,fb,fc,fn⟩:=form_ok hop
  have h3:=h2 _ _ hF
  dsimp only at fa fb fc fn
  cases rn with
  |true=>
   have e2:a.op=2:=fn.1 rfl
   repeat' (first
    |(refine k_L ?_;first|refine a_p rfl ?_|(refine k_g ?_;first|refine a_gy rfl rfl ?_|refine a_gn rfl rfl ?_|refine a_gu rfl ?_|(refine a_gd rfl (fun hb=>?_) (fun hb=>?_)<;>try(exfalso;omega)))|(refine k_st ?_;refine g_sw rfl rfl rfl rfl (Nat.le_of_ble_eq_true rfl) ?_)|(refine k_al ?_;refine a_al ?_)|(refine k_bx ?_;refine a_bx rfl rfl ?_)|(refine k_c ?_;refine a_cq rfl (fun m hm=>impl.withinQ) ?_)|(refine a_l rfl (rd_h (rd_gl h1)) ?_)|(refine a_i (e:=⟨some ⟨b,o,none⟩,cap⟩) rfl rfl ⟨fun _ _=>rfl⟩ (by omega) ?_)|(refine a_ls rfl (rs_h (rs_cods h3)) ?_))
    |refine a_n ?_
    |(refine k_V ?_;first|refine v_seq ?_|refine v_reg ?_|refine v_ret ?_|refine v_skip ?_|(refine v_cnd rfl (fun hb=>?_) (fun hb=>?_)<;>try(exfalso;omega)))
    |refine sk_zero ?_
    |refine sk_succ ?_
    |refine wk_nil ?_
    |refine wk_cons ?_)
   all_goals first
    |exact q_F (fun h=>by(try dsimp only at*);unfold ActP at h;omega)
    |exact q_B (fun _ _=>rfl) (by dsimp only at*;unfold ActP;first|(rw[beq_iff_eq];omega)|(rw[decide_eq_true_eq];omega)|exact⟨fun _=>by omega,fun _=>rfl⟩)
  |false=>
   have e2:a.op≠2:=fun e=>by have:=fn.2 e;cases this
   repeat' (first
    |(refine k_L ?_;first|refine a_p rfl ?_|(refine k_g ?_;first|refine a_gy rfl rfl ?_|refine a_gn rfl rfl ?_|refine a_gu rfl ?_|(refine a_gd rfl (fun hb=>?_) (fun hb=>?_)<;>try(exfalso;omega)))|(refine k_st ?_;refine g_sw rfl rfl rfl rfl (Nat.le_of_ble_eq_true rfl) ?_)|(refine k_al ?_;refine a_al ?_)|(refine k_bx ?_;refine a_bx rfl rfl ?_)|(refine k_c ?_;refine a_cq rfl (fun m hm=>impl.withinQ) ?_)|(refine a_l rfl (rd_h (rd_gl h1)) ?_)|(refine a_i (e:=⟨some ⟨b,o,none⟩,cap⟩) rfl rfl ⟨fun _ _=>rfl⟩ (by omega) ?_)|(refine a_ls rfl (rs_h (rs_cods h3)) ?_))
    |refine a_n ?_
    |(refine k_V ?_;first|refine v_seq ?_|refine v_reg ?_|refine v_ret ?_|refine v_skip ?_|(refine v_cnd rfl (fun hb=>?_) (fun hb=>?_)<;>try(exfalso;omega)))
    |refine sk_zero ?_
    |refine sk_succ ?_
    |refine wk_nil ?_
    |refine wk_cons ?_)
   all_goals first
    |exact q_F (fun h=>by(try dsimp only at*);unfold ActP at h;omega)
    |exact q_B (fun _ _=>rfl) (by dsimp only at*;unfold ActP;first|(rw[beq_iff_eq];omega)|(rw[decide_eq_true_eq];omega)|exact⟨fun _=>by omega,fun _=>rfl⟩)
 ·repeat' (first
   |(refine k_L ?_;first|refine a_p rfl ?_|(refine k_bx ?_;refine a_bx rfl rfl ?_)|(refine k_c ?_;refine a_cq rfl (fun m hm=>impl.withinQ) ?_))
   |refine a_n ?_
   |(refine k_V ?_;first|refine v_rv ?_|refine v_seq ?_|refine v_reg ?_|(refine v_cnd rfl (fun hb=>?_) (fun hb=>?_)<;>try(exfalso;omega)))
   |refine s_r ?_)
  all_goals first
   |exact q_F (fun h=>by(try dsimp only at*);unfold ActP at h;omega)
end Go.Proofs.YtpleoapljeffiaaDoor.E
namespace Go.Proofs.YtpleoapljeffiaaDoor.E
open Go Go.ChangeShapes Go.WideShapes Go.ChangeAt Go.RowKit
theorem gForms: Tryd.prog.globalNamed "loop.example/spool/impl.forms" = some 0 := by kernel_rfl
theorem tForms:(Tryd.prog.globals[0]?).map (·.type)=some 72:=by kernel_rfl
theorem cell_of{W:World}{b o:Nat}{v:Value}(h:W.cell? ⟨b,o,none⟩=some v):cell (memOf W) b o=some v:=by
 unfold World.cell? at h
 split at h
 ·rename_i c t fr hh
  have:=memOf_cells hh
  unfold cell
  rw[this]
  simp at h⊢
  exact h
 ·cases h
theorem fmD_inj{H:Type}{x y:Form}(h:(fmD x:DataW H)=fmD y):x=y:=by
 obtain⟨⟨⟨xn⟩⟩,xa,xb,xc,xd⟩:=x
 obtain⟨⟨⟨yn⟩⟩,ya,yb,yc,yd⟩:=y
 simp only[fmD,DataW.agg.injEq,List.cons.injEq,DataW.lit.injEq,Lit.string.injEq,Lit.int.injEq,Lit.bool.injEq,and_true,true_and]at h
 obtain⟨h1,rfl,rfl,rfl,rfl⟩:=h
 try simp only at h1
 subst h1
 rfl
abbrev laidF: List (String × DataW Unit) := [("loop.example/spool/impl.forms", Rows.laid_loop_example_spool_impl_forms)]
theorem frm_of_met{L:List (String×DataW Unit)}(hL:L=laidF){W:World}(h:laidMetH Tryd.prog L W):Frm (memOf W):=by
 subst hL
 rw[MakeChecks.laidMetH_plain _ _ _ (by kernel_rfl)]at h
 obtain⟨ps,⟨g0,t0,cs0,f0,p0,q0,hg0,ht0,hv0,hd0,_,_⟩,_,_⟩:=h
 obtain rfl:=Option.some.inj (gForms.symm.trans hg0)
 obtain rfl:=Option.some.inj (tForms.symm.trans ht0)
 obtain⟨v,xs,e,hsl,hl,hR⟩:=open_slD (f:=fmV) (size:=5) (R:=fun d x=>d=fmD x) (ds:=formsL.map fmD) (sp:=[]) (fun _=>rfl) (by omega) und_forms cof_form open_form hd0
 have hv:=World.var?_cell hg0 hv0 0
 have hx:xs=formsL:=by
  apply List.ext_getElem?
  intro i
  have hl':xs.length=formsL.length:=by rw[hl,List.length_map]
  cases hi:xs[i]? with
  |none=>rw[List.getElem?_eq_none_iff]at hi;rw[List.getElem?_eq_none (by omega)]
  |some y=>
   have hlt:=(List.getElem?_eq_some_iff.1 hi).1
   have hF:formsL[i]?=some formsL[i]:=List.getElem?_eq_getElem (by omega)
   have:=hR i (fmD formsL[i]) y (by rw[List.getElem?_map,hF];rfl) hi
   rw[hF,fmD_inj this]
 subst hx
 obtain⟨a,cap,rfl⟩:=hsl.len
 have hc0:cs0[0]?=some (.slice a formsL.length cap):=by rw[←Array.getElem?_toList,e];rfl
 rw[hc0]at hv
 obtain⟨b,o,rfl,_⟩:=hsl.at2 (fun _=>rfl) (i:=0) rfl
 refine⟨b,o,cap,cell_of hv,fun i F hF=>?_⟩
 obtain⟨b',o',e',h2⟩:=hsl.at2 (fun _=>rfl) hF
 cases e'
 exact h2
end Go.Proofs.YtpleoapljeffiaaDoor.E
namespace Go.Proofs.YtpleoapljeffiaaDoor.E
open Go
noncomputable def e6:Env:=⟨Tryd.prog,[],16,[]⟩
noncomputable def c6:C:=
 .seq (.reg [zD 4 0]) (.seq (.seq (.reg [z3 5 0,zC 6 5,zA 7 6 0]) (.cond (.tmp 7) (.seq (.reg [zD 4 0]) .ret) .skip)) (.seq (.reg [z3 8 0,z3 9 1,z3 10 0,zC 11 10,⟨some 12,none,.bin .rem (.tmp 9) (.tmp 11)⟩,z9 13 1 8 12,z5 14 1 13,⟨some 15,none,.conv .i64 (.tmp 14)⟩,z3 4 15]) .ret))
theorem t6:Tryd.f6.body.bind (trC e6)=some c6:=by kernel_rfl
theorem r6:Tryd.f6.results.toList.mapM (trR Tryd.prog)=some [.tmp 4]:=by kernel_rfl
theorem fn6{args:List Value}{M:Mem}{post:Value→Mem→Prop}(hl:args.length≤16)(h:VC e6 c6 (fnQ [.tmp 4] post) (initS args 16) M):Fn Tryd.prog 6 args M post:=
 Fn.of' (E:=e6) Tryd.func6 t6 rfl r6 mixed hl h
noncomputable def e10:Env:=⟨Tryd.prog,[],26,[(6,9)]⟩
noncomputable def c10:C:=
 .seq (.reg [zO 4]) (.seq (.seq (.reg [z3 6 0,zC 7 6,z3 8 1,zC 9 8,qU 10 7 9]) (.cond (.tmp 10) (.seq (.reg [zO 4]) .ret) .skip)) (.seq (.seq (.reg [z3 11 0,zC 12 11,zD 13 0]) (.block 0 (.loop (.seq (.reg [zM 14 13 12]) (.seq (.cond (.tmp 14) .skip (.exit 0)) (.seq (.block 1 (.seq (.reg [z3 15 13,z3 5 15]) (.seq (.dreg 9 [z3 16 0,z3 17 5,z9 18 1 16 17,z5 19 1 18,z3 20 1,z3 21 5,z9 22 1 20
 21,z5 23 1 22,qU 24 19 23]) (.cond (.tmp 24) (.seq (.reg [zO 4]) .ret) .skip)))) (.reg [zG 25 13 1,z3 13 25]))))))) (.seq (.reg [q4 4]) .ret)))
theorem t10:Tryd.f10.body.bind (trC e10)=some c10:=by kernel_rfl
theorem r10:Tryd.f10.results.toList.mapM (trR Tryd.prog)=some [.tmp 4]:=by kernel_rfl
theorem fn10{args:List Value}{M:Mem}{post:Value→Mem→Prop}(hl:args.length≤26)(h:VC e10 c10 (fnQ [.tmp 4] post) (initS args 26) M):Fn Tryd.prog 10 args M post:=
 Fn.of' (E:=e10) Tryd.func10 t10 rfl r10 mixed hl h
end Go.Proofs.YtpleoapljeffiaaDoor.E
namespace Go.Proofs.YtpleoapljeffiaaDoor.E
open Go
open Classical
theorem Cod.le{m m':Mem}{ca:Option Addr}{cn:Nat}(h:Cod m ca cn)(l:m.le m'):Cod m' ca cn:=⟨fun i hi=>by
 obtain⟨b,o,v,e,hc,hv⟩:=h.at_ i hi
 exact⟨b,o,v,e,cell_le l hc,hv⟩,h.bd⟩
theorem wByte_q{ca:Option Addr}{cn cc:Nat}{m:Mem}{i:Int}(hc:Cod m ca cn)(hi:0≤i∧i≤1000000):∃k:Int,(0≤k∧k≤255)∧∀m',m.le m'→Qt Tryd.prog 6 [.slice ca cn cc,.int .i64 i] m' (.int .i64 k):=by
 by_cases hn:cn=0
 ·refine⟨0,by omega,fun m' l=>qt_of (fnA_of (fun h=>fn6 (by simp) h) ?_)⟩
  have:(cn:Int)=0:=by omega
  repeat' (first
   |(refine k_L ?_;refine a_p rfl ?_)
   |refine a_n ?_
   |(refine k_V ?_;first|refine v_rv ?_|refine v_seq ?_|refine v_reg ?_|(refine v_cd rfl (fun hb=>?_) (fun hb=>?_)<;>try(exfalso;omega)))
   |refine s_r ?_)
  exact fa_q (by simp) (fun _ _=>rfl) rfl
 ·have hbd:=hc.bd
  have hne:(cn:Int)≠0:=by omega
  have h1:=Int.tmod_nonneg (cn:Int) hi.1
  have h2:=Int.tmod_lt_of_pos i (by omega:0<(cn:Int))
  obtain⟨j,hj⟩:=Int.eq_ofNat_of_zero_le h1
  rw[hj]at h2
  obtain⟨b,o,v,e,hcell,hv⟩:=hc.at_ j (by omega)
  subst e
  refine⟨v,hv,fun m' l=>qt_of (fnA_of (fun h=>fn6 (by simp) h) ?_)⟩
  have hcell:=cell_le l hcell
  have rm:∀{P:Program} {r:List I} {d:Option Nat} {post:St→List Asr→Prop} {S:St} {As:List Asr} {x y:Operand},ev S x=some (.int .i64 i)→ev S y=some (.int .i64 cn)→LA P r post (put S d (.v (.int .i64 j))) As→LA P (⟨d,none,.bin .rem x y⟩::r) post S As:=
   fun hx hy hp=>a_p (sv:=.v (.int .i64 _)) (by simp only[pe,hx,hy,binV,binI,if_true,if_neg hne,Option.map_some,hj]) hp
  repeat' (first
   |(refine k_L ?_;first|(refine k_l ?_;refine a_l rfl (by exact rd_h (rd_cod hcell)) ?_)|(refine rm rfl rfl ?_)|(refine b_p rfl ?_)|(refine a_i (e:=⟨some ⟨b,o,none⟩,cc⟩) rfl rfl ⟨fun _ _=>rfl⟩ (by omega) ?_))
   |refine a_n ?_
   |(refine k_V ?_;first|refine v_seq ?_|refine v_reg ?_|refine v_ret ?_|refine v_skip ?_|(refine v_cd rfl (fun hb=>?_) (fun hb=>?_)<;>try(exfalso;omega))))
  exact fa_q (by simp) (fun _ _=>rfl) (by rw[wrap64 (by omega)])
theorem out0{H:Heap}(h:Sound H):outN H=0↔H.phase=0:=by
 have:=out_phase h (j:=0) (by omega)
 constructor
 ·intro e;exact this.2 e.symm
 ·intro e;exact(this.1 e).symm
theorem begin_on{H:Heap}(hp:H.phase≠0):H.beginH=H:=by unfold Heap.beginH;rw[if_neg hp]
theorem held_reached{H:Heap}(h:Sound H){j:Nat}(hj:Held H j):Reached H j:=by
 induction hj with
 |reg h1 h2=>exact .reg h1 h2
 |due h1 h2=>exact .root h1 ⟨last2 h.r2 h1 h2,.inr h2⟩
 |key _ h2 h3 h4 h5 ih=>exact .pair ih h2 h3 (.inl rfl) h5
 |val _ h2 h3 h4 _ h6 ih ih2=>exact .pair ih h2 h3 (.inr rfl) h6
theorem p1_get(H:Heap):∀i:Nat,i≤H.cells.length→∀j:Nat,j<H.cells.length→(p1 H i).getC j=if j<i∧Held H j then{H.getC j with pairs:=kept H (H.getC j) (H.getC j).pairs}else H.getC j
 |0,_,j,_=>by rw[if_neg (by omega)];rfl
 |i+1,hi,j,hj=>by
  have ih:=p1_get H i (by omega) j hj
  obtain⟨a,b,_⟩:=p1_ok H i (by omega)
  have hb:=b i (Nat.le_refl _)
  simp only[p1]
  by_cases hh:Held H i
  ·rw[if_pos hh]
   have:(H.cutC (p1 H i) i).getC j=if(j:Int).toNat=i then{(p1 H i).getC i with pairs:=kept H ((p1 H i).getC i) ((p1 H i).getC i).pairs}else(p1 H i).getC j:=by
    rw[getC_L,getC_L];exact getL_set (by rw[a.len];omega)
   rw[this]
   by_cases e:j=i
   ·subst e
    rw[if_pos (by omega),if_pos ⟨by omega,hh⟩,hb]
   ·rw[if_neg (by omega),ih]
    by_cases e2:j<i∧Held H j
    ·rw[if_pos e2,if_pos ⟨by omega,e2.2⟩]
    ·rw[if_neg e2,if_neg (fun x=>e2 ⟨by omega,x.2⟩)]
  ·rw[if_neg hh,ih]
   by_cases e2:j<i∧Held H j
   ·rw[if_pos e2,if_pos ⟨by omega,e2.2⟩]
   ·rw[if_neg e2,if_neg (fun x=>e2 ⟨by
     rcases Nat.lt_or_ge j i with y|y
     ·exact y
     ·have:j=i:=by omega
      subst this;exact absurd x.2 hh,x.2⟩)]
theorem heldL_iff{H:Heap}{i:Nat}(hi:i<H.cells.length):(heldL H)[i]?=some true↔Held H i:=by
 unfold heldL
 rw[List.getElem?_map,List.getElem?_range hi]
 simp
end Go.Proofs.YtpleoapljeffiaaDoor.E
namespace Go.Proofs.YtpleoapljeffiaaDoor.E
open Go
noncomputable def e60:Env:=⟨Tryd.prog,[1,4],30,[]⟩
noncomputable def c60:C:=
 .seq (.reg [zN 1 0,zD 2 0]) (.seq (.seq (.reg [z4 5 1 1,z5 6 1 5,zY 7 6]) (.cond (.tmp 7) (.seq (.reg [z4 8 0 1,z5 9 1 8,z6 10 9,z4 11 4 10,z5 12 1 11,zC 13 12,zD 14 0]) (.block 0 (.loop (.seq (.reg [zM 15 14 13]) (.seq (.cond (.tmp 15) .skip (.exit 0)) (.seq (.block 1 (.seq (.reg [z3 16 14,z9 17 8 12 14,z8 18 8 17,za 4 0 0 0 0 0 0 0 0 0,z3 3 16,z7 8 4 18]) (.seq (.reg [z4 19 0 4,z5 20 1 19,
 zA 21 20 0]) (.cond (.tmp 21) (.seq (.reg [z3 22 3,z3 2 22]) .ret) .skip)))) (.reg [zG 23 14 1,z3 14 23]))))))) .skip)) (.seq (.reg [z4 24 0 1,z5 25 1 24,z6 26 25,z4 27 4 26,z5 28 1 27,zC 29 28,z3 2 29]) .ret))
theorem t60:Tryd.f60.body.bind (trC e60)=some c60:=by kernel_rfl
theorem r60:Tryd.f60.results.toList.mapM (trR Tryd.prog)=some [.tmp 2]:=by kernel_rfl
theorem fn60{args:List Value}{M:Mem}{post:Value→Mem→Prop}(hl:args.length≤30)(h:VC e60 c60 (fnQ [.tmp 2] post) (initS args 30) M):Fn Tryd.prog 60 args M post:=
 Fn.of' (E:=e60) Tryd.func60 t60 rfl r60 mixed hl h
noncomputable def e57:Env:=⟨Tryd.prog,[2],61,[(2,0),(3,13),(4,11),(6,13)]⟩
noncomputable def c57:C:=
 .seq (.reg [zN 2 0,zO 4]) (.seq (.seq (.reg [z4 5 1 2,z5 6 1 5]) (.cond (.tmp 6) (.seq (.hreg [2] [z4 7 0 2,z5 8 1 7,z4 9 0 2,z5 10 1 9,z3 13 1,z4 15 0 2,z5 16 1 15,z6 17 16,z4 18 0 17,z5 19 1 18] (.alt (zL 11 53 10) (.alt (zK 12 51 8 11) (.alt (zZ 14 12 13) (.alt (qA 20 14 19) (.alf (z3 4 20) (.done) (.none)) (.none)) (.none)) (.none)) (.none))) .ret) .skip)) (.seq (.seq (.dreg 13 [z4 21 0 2,
 z5 22 1 21,z6 23 22,z4 24 1 23,z5 25 1 24,z3 26 1,zZ 27 25 26,z4 28 0 2,z5 29 1 28,z6 30 29,z4 31 0 30,z5 32 1 31,⟨some 33,none,.bin .gtr (.tmp 27) (.tmp 32)⟩]) (.cond (.tmp 33) (.seq (.dreg 11 [z4 34 0 2,z5 35 1 34,z4 36 0 2,z5 37 1 36,z6 38 37,z4 39 12 38,z5 40 1 39,zG 41 40 1,⟨some 42,none,.min (.tmp 41) (.const (.int .i64 1000000000))⟩,z6 43 35,z4 44 12 43,z7 1 44 42]) (.reg [z4 45 0 2,z5
 46 1 45,zL 47 56 46])) .skip)) (.seq (.dreg 13 [z4 48 0 2,z5 49 1 48,z6 50 49,z4 51 1 50,z5 52 1 51,z3 53 1,zZ 54 52 53,z4 55 0 2,z5 56 1 55,z6 57 56,z4 58 0 57,z5 59 1 58,qA 60 54 59,z3 4 60]) .ret)))
theorem t57:Tryd.f57.body.bind (trC e57)=some c57:=by kernel_rfl
theorem r57:Tryd.f57.results.toList.mapM (trR Tryd.prog)=some [.tmp 4]:=by kernel_rfl
theorem fn57{args:List Value}{M:Mem}{post:Value→Mem→Prop}(hl:args.length≤61)(h:VC e57 c57 (fnQ [.tmp 4] post) (initS args 61) M):Fn Tryd.prog 57 args M post:=
 Fn.of' (E:=e57) Tryd.func57 t57 rfl r57 mixed hl h
noncomputable def e58:Env:=⟨Tryd.prog,[2],50,[(2,19),(4,9)]⟩
noncomputable def c58:C:=
 .seq (.reg [zN 2 0]) (.seq (.seq (.reg [z4 4 1 2,z5 5 1 4,z3 6 5,zQ 7 6 1,zy 8 6 7 0,zX 9 6 8,z3 10 9,zT 11 10 0 2,zP 12 10 1 11,zx 13 10 12,zT 14 10 9 13,zP 15 10 1 14,zy 16 10 15 0,zX 17 10 16]) (.cond (.tmp 17) .ret .skip)) (.seq (.seq (.dreg 19 [z4 18 0 2,z5 19 1 18,z6 20 19,z4 21 5 20,z5 22 1 21,zA 23 22 0,z3 24 23,zI 25 24 0 2,zE 26 24 1 25,zW 27 24 26,zI 28 24 1 27,zE 29 24 1 28,zI 30
 24 0 2,zE 31 24 1 30,zW 32 24 31,zI 33 24 10 32,zE 34 24 1 33,⟨some 35,some (24,true),.bin .gtr (.tmp 29) (.tmp 34)⟩,zJ 36 24 35]) (.cond (.tmp 36) (.reg [z4 37 0 2,z5 38 1 37,zL 39 54 38]) .skip)) (.dreg 9 [z4 40 0 2,z5 41 1 40,z4 42 0 2,z5 43 1 42,z6 44 43,z4 45 9 44,z5 46 1 45,z3 47 1,⟨some 48,none,.bin .mul (.tmp 46) (.tmp 47)⟩,zK 49 55 41 48])))
theorem t58:Tryd.f58.body.bind (trC e58)=some c58:=by kernel_rfl
theorem r58:Tryd.f58.results.toList.mapM (trR Tryd.prog)=some []:=by kernel_rfl
theorem fn58{args:List Value}{M:Mem}{post:Value→Mem→Prop}(hl:args.length≤50)(h:VC e58 c58 (fnQ [] post) (initS args 50) M):Fn Tryd.prog 58 args M post:=
 Fn.of' (E:=e58) Tryd.func58 t58 rfl r58 mixed hl h
noncomputable def e45:Env:=⟨Tryd.prog,[3],65,[(3,15),(6,15)]⟩
noncomputable def c45:C:=
 .seq (.reg [zN 3 0]) (.seq (.reg [z4 7 0 3,z5 8 1 7,z6 9 8,z4 10 4 9,z5 11 1 10,z3 12 1,z9 13 8 11 12,z3 6 13]) (.seq (.seq (.reg [z3 14 2,z3 15 6,z6 16 15,z4 17 7 16,z5 18 1 17,zC 19 18,zM 20 14 19]) (.cond (.tmp 20) (.seq (.dreg 15 [z4 21 0 3,z5 22 1 21,z6 23 22,z4 24 1 23,z5 25 1 24,z3 26 6,z6 27 26,z4 28 7 27,z5 29 1 28,zC 30 29,z3 31 2,qR 32 30 31,qR 33 25 32,z6 34 22,z4 35 1 34,z7 1 35
 33]) (.reg [z3 36 6,z3 37 6,z6 38 37,z4 39 7 38,z5 40 1 39,z3 41 2,qC 42 6 40 41,z6 43 36,z4 44 7 43,z7 1 44 42])) .skip)) (.seq (.reg [z3 45 1,z4 46 0 3,z5 47 1 46,zL 48 59 47,zk 49 45 48]) (.cond (.tmp 49) (.dreg 15 [z4 50 0 3,z5 51 1 50,z4 52 0 3,z5 53 1 52,z6 54 53,z4 55 7 54,z5 56 1 55,z3 57 6,z6 58 57,z4 59 7 58,z5 60 1 59,zC 61 60,⟨some 62,none,.min (.tmp 56) (.tmp 61)⟩,z6 63 51,z4 64 7
 63,z7 1 64 62]) .skip))))
theorem t45:Tryd.f45.body.bind (trC e45)=some c45:=by kernel_rfl
theorem r45:Tryd.f45.results.toList.mapM (trR Tryd.prog)=some []:=by kernel_rfl
theorem fn45{args:List Value}{M:Mem}{post:Value→Mem→Prop}(hl:args.length≤65)(h:VC e45 c45 (fnQ [] post) (initS args 65) M):Fn Tryd.prog 45 args M post:=
 Fn.of' (E:=e45) Tryd.func45 t45 rfl r45 mixed hl h
noncomputable def e38:Env:=⟨Tryd.prog,[2],5,[]⟩
noncomputable def c38:C:=
 .seq (.reg [zm 2 0 0]) (.seq (.reg [z3 3 0,qV 4 0 0 0 1 3,z7 2 2 4]) .ret)
theorem t38:Tryd.f38.body.bind (trC e38)=some c38:=by kernel_rfl
theorem r38:Tryd.f38.results.toList.mapM (trR Tryd.prog)=some [.cell 2 false 2]:=by kernel_rfl
theorem fn38{args:List Value}{M:Mem}{post:Value→Mem→Prop}(hl:args.length≤5)(h:VC e38 c38 (fnQ [.cell 2 false 2] post) (initS args 5) M):Fn Tryd.prog 38 args M post:=
 Fn.of' (E:=e38) Tryd.func38 t38 rfl r38 mixed hl h
noncomputable def e47:Env:=⟨Tryd.prog,[2],5,[]⟩
noncomputable def c47:C:=
 .seq (.reg [zm 2 0 0]) (.seq (.reg [z3 3 0,qV 4 0 0 1 1 3,z7 2 2 4]) .ret)
theorem t47:Tryd.f47.body.bind (trC e47)=some c47:=by kernel_rfl
theorem r47:Tryd.f47.results.toList.mapM (trR Tryd.prog)=some [.cell 2 false 2]:=by kernel_rfl
theorem fn47{args:List Value}{M:Mem}{post:Value→Mem→Prop}(hl:args.length≤5)(h:VC e47 c47 (fnQ [.cell 2 false 2] post) (initS args 5) M):Fn Tryd.prog 47 args M post:=
 Fn.of' (E:=e47) Tryd.func47 t47 rfl r47 mixed hl h
end Go.Proofs.YtpleoapljeffiaaDoor.E
namespace Go.Proofs.YtpleoapljeffiaaDoor.E
open Go
open Classical
def eV(a:Nat):Value:=.agg #[ptr a,.bool false]
theorem codeE_q{m:Mem}{n:Int}:Qt Tryd.prog 38 [.int .i64 n] m (an n 0):=by
 refine qt_of (fnA_of (fun h=>fn38 (by simp) h) ?_)
 repeat' (first
  |(refine k_L ?_;first|refine a_p rfl ?_|(refine k_st ?_;refine g_sw rfl rfl rfl rfl (Nat.le_of_ble_eq_true rfl) ?_)|(refine k_al ?_;refine a_al ?_))
  |refine a_n ?_
  |(refine k_V ?_;first|refine v_seq ?_|refine v_reg ?_|refine v_ret ?_)
  |refine sk_zero ?_
  |refine sk_succ ?_
  |refine wk_nil ?_
  |refine wk_cons ?_)
 exact fa_q (by simp) (fun _ _=>rfl) rfl
theorem numE_q{m:Mem}{n:Int}:Qt Tryd.prog 47 [.int .i64 n] m (an 0 n):=by
 refine qt_of (fnA_of (fun h=>fn47 (by simp) h) ?_)
 repeat' (first
  |(refine k_L ?_;first|refine a_p rfl ?_|(refine k_st ?_;refine g_sw rfl rfl rfl rfl (Nat.le_of_ble_eq_true rfl) ?_)|(refine k_al ?_;refine a_al ?_))
  |refine a_n ?_
  |(refine k_V ?_;first|refine v_seq ?_|refine v_reg ?_|refine v_ret ?_)
  |refine sk_zero ?_
  |refine sk_succ ?_
  |refine wk_nil ?_
  |refine wk_cons ?_)
 exact fa_q (by simp) (fun _ _=>rfl) rfl
theorem fits_a{a:Nat}{x:HX}{u:Int}(h:Sound x.H)(hu:0≤u∧u≤201):FnA Tryd.prog 57 [eV a,.int .i64 u] (hp a x) (fun v As=>∃z:HX,v=.bool (decide ((x.H.fitsH u).used+u≤(x.H.fitsH u).room))∧As=hp a z∧z.H=x.H.fitsH u):=by
 refine fnA_of (fun h=>fn57 (by simp) h) ?_
 have e1:x.hdr.used=x.H.used:=rfl
 have e2:x.hdr.room=x.H.room:=rfl
 have e3:x.hdr.forced=x.H.forced:=rfl
 have h1:=h.r1.room
 have h2:=h.r3.2
 have h3:=h.r1.forced
 have h4:0≤x.H.used:=by have:=h.r3.1;have:=unitsN_nn x.H.cells;omega
 by_cases hf:x.H.used+u≤x.H.room
 ·have e:x.H.fitsH u=x.H:=by unfold Heap.fitsH;rw[if_pos hf]
  rw[e]
  repeat' (first
   |(refine k_L ?_;first|(refine k_ad ?_;refine g_ad rfl rfl ?_)|refine a_p rfl ?_|(refine k_l ?_;refine g_l rfl ?_)|(refine k_bx ?_;refine a_bx rfl rfl ?_))
   |refine a_n ?_
   |(refine k_V ?_;first|refine v_seq ?_|refine v_reg ?_|refine v_dreg ?_|refine v_ret ?_|refine v_skip ?_|refine v_cf rfl ?_|(refine v_cd rfl (fun hb=>?_) (fun hb=>?_)<;>try(exfalso;omega))))
  exact fa_r (fun _ _=>rfl) (Pm.ent pmt) ⟨x,by simp[hf,e1,e2],rfl,rfl⟩
 ·have fr:∀n:Int,(x.frc n).H={x.H with forced:=n}:=fun n=>rfl
  have end_:∀(z:HX) (F:Heap),z.H=F→(z.hdr.used+u≤z.hdr.room↔F.used+u≤F.room):=fun z F e=>by rw[←e];exact Iff.rfl
  have e:x.H.fitsH u=(x.frc (if(1000000000:Int)<x.H.forced+1 then 1000000000 else x.H.forced+1)).H.roundH:=by
   unfold Heap.fitsH;rw[if_neg hf,fr]
   congr 2
   split<;>split<;>omega
  have eb:(if(1000000000:Int)<x.H.forced+1 then(1000000000:Int)else x.H.forced+1)≤1000000000∧0≤(if(1000000000:Int)<x.H.forced+1 then(1000000000:Int)else x.H.forced+1):=by split<;>omega
  rw[e]
  have sS:Sound (x.frc (if(1000000000:Int)<x.H.forced+1 then 1000000000 else x.H.forced+1)).H:=by rw[fr];exact forced_sound h ⟨eb.2,eb.1⟩
  repeat' (first
   |(refine k_L ?_;first|(refine k_ad ?_;refine g_ad rfl rfl ?_)|refine a_p rfl ?_|(refine k_l ?_;refine g_l rfl ?_)|(refine k_st ?_;refine g_st rfl rfl rfl rfl ?_)|(refine k_bx ?_;refine a_bx rfl rfl ?_)|(refine g_c rfl (round_a (x:=x.frc (if(1000000000:Int)<x.H.forced+1 then 1000000000 else x.H.forced+1)) sS) (fun v As' hq=>?_);obtain⟨z,rfl,hz⟩:=hq;have zb:=used_b (z:=z) (by rw[hz];exact(roundH_ok sS).1)))
   |refine a_n ?_
   |(refine k_V ?_;first|refine v_seq ?_|refine v_reg ?_|refine v_dreg ?_|refine v_ret ?_|refine v_skip ?_|refine v_cf rfl ?_|(refine v_cd rfl (fun hb=>?_) (fun hb=>?_)<;>try(exfalso;omega))))
  all_goals exact fa_r (fun _ _=>rfl) (Pm.ent pmt) ⟨z,by congr 1;rw[Bool.eq_iff_iff];simp only[decide_eq_true_eq];exact end_ z _ hz,rfl,hz⟩
theorem step_idle{H:Heap}(h:Sound H)(hp:H.phase=0)(k:Nat):iterU (min k (outN H)) H=H:=by
 rw[(out0 h).2 hp,Nat.min_zero];rfl
theorem step_busy{H:Heap}(hp:H.phase≠0){n:Int}(hn:n≠0):iterU (min n.toNat (outN H)) H=H.stepH n:=by
 unfold Heap.stepH stepN
 rw[if_neg hn,begin_on hp,if_neg hn]
theorem pace_a{a:Nat}{x:HX}{u:Int}(h:Sound x.H)(hu:0≤u∧u≤201):FnA Tryd.prog 58 [eV a,.int .i64 u] (hp a x) (fun v As=>∃z:HX,As=hp a z∧z.H=x.H.paceH u):=by
 refine fnA_of (fun h=>fn58 (by simp) h) ?_
 have e1:x.hdr.used=x.H.used:=rfl
 have e2:x.hdr.per=x.H.per:=rfl
 have e3:x.hdr.start=x.H.start:=rfl
 have e4:x.hdr.phase=x.H.phase:=rfl
 have h1:=h.r1.per
 have hm:0≤x.H.per*u∧x.H.per*u≤64*201:=⟨Int.mul_nonneg h1.1 hu.1,Int.mul_le_mul h1.2 hu.2 hu.1 (by omega)⟩
 unfold Heap.paceH
 by_cases c1:x.H.per=0∨u=0
 ·rw[if_pos c1]
  repeat' (first
   |(refine k_L ?_;first|refine a_p rfl ?_|(refine k_g ?_;first|refine a_gy rfl rfl ?_|refine a_gn rfl rfl ?_|(refine a_gd rfl (fun hb=>?_) (fun hb=>?_)<;>try(exfalso;omega)))|(refine k_l ?_;refine g_l rfl ?_)|(refine k_bx ?_;refine a_bx rfl rfl ?_))
   |refine a_n ?_
   |(refine k_V ?_;first|refine v_seq ?_|refine v_reg ?_|refine v_ret ?_|refine v_ct rfl ?_|(refine v_cd rfl (fun hb=>?_) (fun hb=>?_)<;>try(exfalso;omega)))
   |refine s_r ?_)
  all_goals first
   |exact fa_n (fun _ _=>rfl) (Pm.ent pmt) ⟨x,rfl,rfl⟩
   |exact fa_r (fun _ _=>rfl) (Pm.ent pmt) ⟨x,rfl,rfl⟩
   |(exfalso;omega)
 ·rw[if_neg c1]
  have c2:¬x.H.per=0:=fun e=>c1 (.inl e)
  have c3:¬u=0:=fun e=>c1 (.inr e)
  have hn:x.H.per*u≠0:=fun e=>by
   rcases Int.mul_eq_zero.1 e with e|e
   ·exact c2 e
   ·exact c3 e
  by_cases c4:x.H.phase=0
  ·by_cases c5:x.H.used≤x.H.start
   ·rw[if_pos ⟨c4,c5⟩]
    repeat' (first
     |(refine k_L ?_;first|(refine k_ml ?_;refine g_ml rfl rfl ?_)|refine a_p rfl ?_|(refine k_g ?_;first|refine a_gy rfl rfl ?_|(refine a_gd rfl (fun hb=>?_) (fun hb=>?_)<;>try(exfalso;omega)))|(refine k_l ?_;refine g_l rfl ?_)|(refine k_bx ?_;refine a_bx rfl rfl ?_)|(refine g_c rfl (step_a (x:=x) (n:=x.H.per*u) h (by omega)) (fun v As' hq=>?_);obtain⟨z,rfl,rfl,hz⟩:=hq))
     |refine a_n ?_
     |(refine k_V ?_;first|refine v_seq ?_|refine v_reg ?_|refine v_dreg ?_|refine v_skip ?_|(refine v_cd rfl (fun hb=>?_) (fun hb=>?_)<;>try(exfalso;omega))))
    all_goals first
     |exact fa_n (fun _ _=>rfl) (Pm.ent pmt) ⟨z,rfl,by rw[hz,step_idle h c4]⟩
     |(exfalso;omega)
   ·rw[if_neg (fun e=>c5 e.2)]
    have pb:x.begin.H=x.H.enterH 1:=by rw[begin_H];unfold Heap.beginH;rw[if_pos c4]
    have hsb:Sound x.begin.H:=by rw[pb];exact begin_sound h c4
    have pp:x.begin.hdr.per=x.H.per:=by show x.begin.H.per=_;rw[pb];rfl
    have hm2:0≤x.begin.hdr.per*u∧x.begin.hdr.per*u≤64*201:=by rw[pp];exact hm
    repeat' (first
     |(refine k_L ?_;first|(refine k_ml ?_;refine g_ml rfl rfl ?_)|refine a_p rfl ?_|(refine k_g ?_;first|refine a_gy rfl rfl ?_|(refine a_gd rfl (fun hb=>?_) (fun hb=>?_)<;>try(exfalso;omega)))|(refine k_l ?_;refine g_l rfl ?_)|(refine k_bx ?_;refine a_bx rfl rfl ?_)|(refine g_c rfl (begin_a (x:=x)) (fun v As' hq=>?_);subst hq))
     |refine a_n ?_
     |(refine k_V ?_;first|refine v_seq ?_|refine v_reg ?_|refine v_dreg ?_|refine v_skip ?_|(refine v_cd rfl (fun hb=>?_) (fun hb=>?_)<;>try(exfalso;omega))))
    refine g_c rfl (step_a (x:=x.begin) (n:=x.begin.hdr.per*u) hsb (by rw[pp];omega)) (fun v As' hq=>?_)
    obtain⟨z,rfl,rfl,hz⟩:=hq
    repeat' (first
     |(refine k_L ?_;first|(refine k_ad ?_;refine g_ad rfl rfl ?_)|(refine k_su ?_;refine g_su rfl rfl ?_)|(refine k_ml ?_;refine g_ml rfl rfl ?_)|refine a_p rfl ?_|(refine k_g ?_;first|refine a_gy rfl rfl ?_|refine a_gn rfl rfl ?_|refine a_gu rfl ?_|(refine a_gd rfl (fun hb=>?_) (fun hb=>?_)<;>try(exfalso;omega))|(refine a_ge rfl (fun hb=>?_) (fun hb=>?_)<;>try(exfalso;omega))|(refine a_gne rfl (fun hb=>?_) (fun hb=>?_)<;>try(exfalso;omega))|(refine a_gnd rfl (fun hb=>?_) (fun hb=>?_)<;>try(exfalso;omega)))|(refine k_l ?_;refine g_l rfl ?_)|(refine k_i ?_;refine g_i rfl rfl ?_)|(refine k_ls ?_;refine g_ls rfl ?_)|(refine k_st ?_;first|refine g_st rfl rfl rfl rfl ?_|refine g_sw rfl rfl rfl rfl (Nat.le_of_ble_eq_true rfl) ?_)|(refine k_al ?_;refine a_al ?_)|(refine k_bx ?_;refine a_bx rfl rfl ?_)|(refine k_bl ?_;refine a_bl rfl ?_)|(refine k_p ?_;first|(refine a_pd rfl (fun hb=>?_) (fun hb=>?_)<;>try(exfalso;omega))|(refine a_pe rfl (fun hb=>?_) (fun hb=>?_)<;>try(exfalso;omega))|(refine a_pne rfl (fun hb=>?_) (fun hb=>?_)<;>try(exfalso;omega))|(refine a_pnd rfl (fun hb=>?_) (fun hb=>?_)<;>try(exfalso;omega))))
     |refine a_n ?_
     |(refine k_V ?_;first|refine v_rv ?_|refine v_seq ?_|refine v_reg ?_|refine v_dreg ?_|refine v_zreg ?_|refine v_bs ?_|refine v_br ?_|refine v_bd ?_|refine v_bc ?_|refine v_bk ?_|refine v_bb ?_|refine v_ret ?_|refine v_exit ?_|refine v_skip ?_|refine v_ct rfl ?_|refine v_cf rfl ?_|(refine v_cd rfl (fun hb=>?_) (fun hb=>?_)<;>try(exfalso;omega))|(refine v_ce rfl (fun hb=>?_) (fun hb=>?_)<;>try(exfalso;omega))|(refine v_cn rfl (fun hb=>?_) (fun hb=>?_)<;>try(exfalso;omega))|(refine v_cnd rfl (fun hb=>?_) (fun hb=>?_)<;>try(exfalso;omega)))
     |refine s_n ?_
     |refine s_r ?_
     |refine s_e ?_
     |refine b_n ?_
     |refine b_r ?_
     |refine b_e ?_
     |refine b_o rfl ?_
     |refine r_rt ?_
     |refine r_bk rfl ?_
     |refine r_ex rfl rfl ?_
     |refine sk_zero ?_
     |refine sk_succ ?_
     |refine wk_nil ?_
     |refine wk_cons ?_)
    exact fa_n (fun _ _=>rfl) (Pm.ent pmt) ⟨z,rfl,by rw[hz,pp,step_busy (by rw[pb];show(1:Int)≠0;omega) hn,pb];exact step_begun c4 hn⟩
  ·rw[if_neg (fun e=>c4 e.1)]
   repeat' (first
    |(refine k_L ?_;first|(refine k_ml ?_;refine g_ml rfl rfl ?_)|refine a_p rfl ?_|(refine k_g ?_;first|refine a_gy rfl rfl ?_|refine a_gn rfl rfl ?_|(refine a_gd rfl (fun hb=>?_) (fun hb=>?_)<;>try(exfalso;omega)))|(refine k_l ?_;refine g_l rfl ?_)|(refine k_bx ?_;refine a_bx rfl rfl ?_)|(refine g_c rfl (step_a (x:=x) (n:=x.H.per*u) h (by omega)) (fun v As' hq=>?_);obtain⟨z,rfl,rfl,hz⟩:=hq))
    |refine a_n ?_
    |(refine k_V ?_;first|refine v_seq ?_|refine v_reg ?_|refine v_dreg ?_|refine v_skip ?_|refine v_cf rfl ?_|(refine v_cd rfl (fun hb=>?_) (fun hb=>?_)<;>try(exfalso;omega))))
   all_goals exact fa_n (fun _ _=>rfl) (Pm.ent pmt) ⟨z,rfl,by rw[hz];exact step_busy c4 hn⟩
end Go.Proofs.YtpleoapljeffiaaDoor.E
