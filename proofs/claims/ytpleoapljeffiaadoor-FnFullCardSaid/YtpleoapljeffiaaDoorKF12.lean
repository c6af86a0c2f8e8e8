/- A part of the proof. Conditions: none. -/
import Derived.Test.YtpleoapljeffiaaDoorKF11
set_option linter.unusedVariables false
set_option linter.unusedSimpArgs false
set_option maxHeartbeats 8000000
set_option maxRecDepth 100000
namespace Go.Proofs.YtpleoapljeffiaaDoor.E
open Go
open Classical
theorem place_q{m:Mem}{a:Nat}{x:HX}(h:Has m (hp a x)):Qt Tryd.prog 60 [eV a] m (.int .i64 (frG x.H x.xs.length)):=by
 have hb0:=h.lens
 have hl:=x.len
 have hnc:x.hdr.nc=x.xs.length:=rfl
 refine qt_of (fnA_of (fun h=>fn60 (by simp) h) ?_)
 obtain⟨f1,f2,f3,f4⟩:=frG_ok x.H x.xs.length
 repeat' (first
  |(refine k_L ?_;first|refine a_p rfl ?_|(refine k_l ?_;refine g_l rfl ?_)|(refine k_bx ?_;refine a_bx rfl rfl ?_))
  |refine a_n ?_
  |(refine k_V ?_;first|refine v_seq ?_|refine v_reg ?_|refine v_ct rfl ?_)
  |refine s_n ?_)
 refine g_range x.xs.length (fun _:Unit=>[(1,.box [ptr a,.bool false]),(12,.v (.slice x.cd.a x.xs.length x.cd.cap))]) (fun _=>[ro m]) (fun i _=>∀j:Nat,j<i→(x.H.getC j).state≠0) () (fun j hj=>by omega) (fun i _ hi hv=>?_) (fun _ hv=>?_)
 ·obtain⟨y,gy,gc⟩:=HX.at hi
  have gk:=HX.gc gy
  repeat' (first
   |(refine k_L ?_;first|refine a_p rfl ?_|(refine k_i ?_;refine g_i rfl rfl ?_)|(refine k_ls ?_;refine g_ls rfl ?_)|(refine k_st ?_;refine g_sw rfl rfl rfl rfl (Nat.le_of_ble_eq_true rfl) ?_)|(refine k_al ?_;refine a_al ?_))
   |refine a_n ?_
   |(refine k_V ?_;first|refine v_seq ?_|refine v_reg ?_|refine v_ret ?_|refine v_skip ?_|(refine v_cd rfl (fun hb=>?_) (fun hb=>?_)<;>try(exfalso;omega)))
   |refine s_r ?_
   |refine r_rt ?_
   |refine sk_zero ?_
   |refine sk_succ ?_
   |refine wk_nil ?_
   |refine wk_cons ?_)
  ·refine fa_q (by simp) (fun _ _=>rfl) ?_
   congr 1
   rcases Int.lt_or_le (frG x.H x.xs.length) i with e|e
   ·have h1:=(f3 (by omega)).2
    have h2:=hv (frG x.H x.xs.length).toNat (by omega)
    rw[show(((frG x.H x.xs.length).toNat:Nat):Int)=frG x.H x.xs.length by omega]at h2
    exact absurd h1 h2
   ·rcases Int.lt_or_le i (frG x.H x.xs.length)with e2|e2
    ·exact absurd (by rw[gk];assumption) (f4 i hi e2)
    ·omega
  ·refine r_nx () (fun j hj=>?_)
   by_cases e:j=i
   ·subst e;rw[gk];assumption
   ·exact hv j (by omega)
 ·repeat' (first
   |(refine k_L ?_;first|refine a_p rfl ?_|(refine k_l ?_;refine g_l rfl ?_))
   |refine a_n ?_
   |(refine k_V ?_;first|refine v_seq ?_|refine v_reg ?_|refine v_ret ?_))
  refine fa_q (by simp) (fun _ _=>rfl) ?_
  congr 1
  rcases Int.lt_or_le (frG x.H x.xs.length) x.H.cells.length with e|e
  ·have h1:=(f3 e).2
   have h2:=hv (frG x.H x.xs.length).toNat (by omega)
   rw[show(((frG x.H x.xs.length).toNat:Nat):Int)=frG x.H x.xs.length by omega]at h2
   exact absurd h1 h2
  ·omega
theorem v_vib{E:Env}{a:C}{K:St→List Asr→Prop}{Q:X→St→List Asr→Prop}{S:St}{As:List Asr}(J:St→List Asr→Prop)(h:VA E a (seqA J Q) S As)(h2:∀S As,J S As→K S As):VA E a (seqA K Q) S As:=
 v_mono h fun x S As hq=>by cases x<;>first|exact h2 _ _ hq|exact hq
theorem cl_spl{cd:D}{ys:List CS}{i:Nat}{y:CS}{R:List Asr}(hi:ys[i]?=some y):Ent (clA cd ys::R) (slA 8 csv cd ys::slA 6 pv y.d y.c.pairs::prA (ys.eraseIdx i)::R):=cl_open.trans (Ent.cons (ent_of fun m hm=>by
 obtain⟨a,b,d,rfl,h1,h2⟩:=hm
 have:=pr_out hi h1
 obtain⟨c,e,d2,rfl,k1,k2⟩:=star2.1 this
 refine⟨c,e.un b,?_,un_assoc _ _ _,k1,e,b,(disj_un'.1 d).2,rfl,k2,h2⟩
 exact disj_un.2 ⟨d2,(disj_un'.1 d).1⟩))
theorem cl_joi{cd:D}{ys:List CS}{i:Nat}{y':CS}{R:List Asr}(hi:i<ys.length):Ent (slA 8 csv cd (ys.set i y')::slA 6 pv y'.d y'.c.pairs::prA (ys.eraseIdx i)::R) (clA cd (ys.set i y')::R):=(Ent.cons (ent_of fun m hm=>by
 obtain⟨c,r,d,rfl,k1,e,b,d2,rfl,k2,h2⟩:=hm
 obtain⟨d3,d4⟩:=disj_un.1 d
 refine⟨c.un e,b,disj_un'.2 ⟨d4,d2⟩,(un_assoc _ _ _).symm,pr_in hi (star2.2 ⟨c,e,d3,rfl,k1,k2⟩),h2⟩)).trans cl_close
def HX.bnp(x:HX):HX:={x with born:=x.born+1}
theorem make_a{a:Nat}{x:HX}{op n:Int}{ka kb kc:Nat}(h:Sound x.H)(ha:ka≤15)(hb:kb≤255)(hc:kc≤200):FnA Tryd.prog 48 [eV a,.agg #[.int .i64 op,.int .i64 ka,.int .i64 kb,.int .i64 kc,.int .i64 n]] (hp a x) (fun v As=>∃z:HX,v=an (doNew x.H ⟨op,ka,kb,kc,n⟩).code (doNew x.H ⟨op,ka,kb,kc,n⟩).num∧As=hp a z∧z.H=(doNew x.H ⟨op,ka,kb,kc,n⟩).heap):=by
 have hl:=x.len
 have e1:x.hdr.born=x.H.born:=rfl
 refine fnA_of (fun h=>fn48 (by simp) h) ?_
 obtain⟨f1,f2,f3,f4,f5,f6,f7⟩:=fits_ok h (1+kc)
 unfold doNew
 dsimp only
 by_cases c0:x.H.born=1000000000
 ·rw[if_pos c0]
  repeat' (first
   |(refine k_L ?_;first|refine a_p rfl ?_|(refine k_g ?_;first|refine a_gn rfl rfl ?_|(refine a_gd rfl (fun hb=>?_) (fun hb=>?_)<;>try(exfalso;omega)))|(refine k_l ?_;refine g_l rfl ?_)|(refine k_st ?_;refine g_sw rfl rfl rfl rfl (Nat.le_of_ble_eq_true rfl) ?_)|(refine k_al ?_;refine a_al ?_)|(refine k_bx ?_;refine a_bx rfl rfl ?_)|(refine k_c ?_;refine a_cq rfl (fun m hm=>codeE_q) ?_))
   |refine a_n ?_
   |(refine k_V ?_;first|refine v_seq ?_|refine v_reg ?_|refine v_ret ?_|refine v_ct rfl ?_)
   |refine s_r ?_
   |refine sk_zero ?_
   |refine sk_succ ?_
   |refine wk_nil ?_
   |refine wk_cons ?_)
  all_goals exact fa_r (fun _ _=>rfl) (Pm.ent pmt) ⟨x,rfl,rfl,rfl⟩
 ·rw[if_neg c0]
  generalize hF:x.H.fitsH (1+kc)=F at*
  have hbn:=f1.r1.born
  by_cases c2:F.used+(1+kc)≤F.room
  ·rw[if_pos c2]
   repeat' (first
    |(refine k_L ?_;first|(refine k_ad ?_;refine g_ad rfl rfl ?_)|refine a_p rfl ?_|(refine k_g ?_;first|refine a_gy rfl rfl ?_|(refine a_gd rfl (fun hb=>?_) (fun hb=>?_)<;>try(exfalso;omega)))|(refine k_l ?_;refine g_l rfl ?_)|(refine k_st ?_;refine g_sw rfl rfl rfl rfl (Nat.le_of_ble_eq_true rfl) ?_)|(refine k_al ?_;refine a_al ?_)|(refine k_bx ?_;refine a_bx rfl rfl ?_)|(refine k_c ?_;refine a_cq rfl (fun m hm=>codeE_q) ?_)|(refine g_c rfl (fits_a (x:=x) (u:=1+(kc:Int)) h (by omega)) (fun v As' hq=>?_);obtain⟨z,rfl,rfl,hz⟩:=hq;rw[hF]at hz;have zb:z.hdr.born=F.born:=congrArg Heap.born hz))
    |refine a_n ?_
    |(refine k_V ?_;first|refine v_seq ?_|refine v_reg ?_|refine v_ret ?_|refine v_skip ?_|(refine v_cnd rfl (fun hb=>?_) (fun hb=>?_)<;>try(exfalso;omega)))
    |refine s_r ?_
    |refine sk_zero ?_
    |refine sk_succ ?_
    |refine wk_nil ?_
    |refine wk_cons ?_)
   ·exfalso;rw[hF]at hb;omega
   subst hz
   have zl:=z.len
   have z16:z.regs.length=16:=f1.r1.regs
   have g3:=f1.r1.cells
   have g2:=f1.r1.room
   have ub:=f1.r3
   have un:=unitsN_nn z.H.cells
   unfold R3 at ub
   obtain⟨p0,p1,p2,p3⟩:=frG_ok z.H z.H.cells.length
   obtain⟨j,hj⟩:=Int.eq_ofNat_of_zero_le p0
   have ef:frG z.H z.xs.length=j:=by rw[←zl];exact hj
   have xph:z.bnp.hdr.phase=z.H.phase:=rfl
   have xha:z.bnp.hdr.hand=z.H.hand:=rfl
   have xnc:z.bnp.hdr.nc=z.xs.length:=rfl
   have xnr:z.bnp.hdr.nr=z.regs.length:=rfl
   have xus:z.bnp.hdr.used=z.H.used:=rfl
   have xxs:z.bnp.xs.length=z.xs.length:=rfl
   have hmk:Marking z.bnp.H↔Marking z.H:=Iff.rfl
   repeat' (first
    |(refine k_L ?_;first|(refine k_ad ?_;refine g_ad rfl rfl ?_)|refine a_p rfl ?_|(refine k_l ?_;refine g_l rfl ?_)|(refine k_st ?_;refine g_st rfl rfl rfl rfl ?_)|(refine k_c ?_;refine a_cq rfl (fun m hm=>qt_e (place_q (x:=z) (sep_has hm pmt)) (by rw[ef])) ?_))
    |refine a_n ?_
    |(refine k_V ?_;first|refine v_seq ?_|refine v_reg ?_))
   refine VA.ent (Pm.ent (fin z.bnp)) ?_
   refine v_vib (fun S As=>∃g:D,leA [(2,.box [ptr a,.bool false]),(3,.box [.int .i64 op,.int .i64 ka,.int .i64 kb,.int .i64 kc,.int .i64 n]),(4,.box [.int .i64 0,.int .i64 0]),(5,.v (.int .i64 j)),(6,.box [.int .i64 1,.int .i64 kb,.int .i64 0,.int .i64 0,.int .i64 (z.born+1),.int .i64 0,.int .i64 0,.slice g.a (List.replicate kc Pair.no).length g.cap])] S∧Ent As (slA 6 pv g (List.replicate kc Pair.no)::hp a z.bnp)) ?_ ?_
   ·refine v_hreg (Gs:=[slA 3 wv z.bnp.rd z.bnp.regs,clA z.bnp.cd z.bnp.xs,slA 1 iv z.bnp.gd z.bnp.gray]) [hdA a z.bnp.hdr] pmt ?_
    repeat' (first
     |(refine k_L ?_;first|refine a_p rfl ?_|(refine k_l ?_;refine g_l rfl ?_)|(refine k_st ?_;refine g_sw rfl rfl rfl rfl (Nat.le_of_ble_eq_true rfl) ?_)|(refine k_al ?_;refine a_al ?_)|(refine a_mk (f:=pv) (n:=(kc:Int)) (k:=(kc:Int)) Pair.no pv_len rfl rfl rfl (by omega) (by omega) (fun g hg=>?_)))
     |refine a_n ?_
     |refine s_n ?_
     |refine sk_zero ?_
     |refine sk_succ ?_
     |refine wk_nil ?_
     |refine wk_cons ?_
     |refine t_a ?_ t_n
     |refine t_f ?_ t_n
     |refine t_a ?_ ?_
     |refine t_d ?_
     |refine kl_1 rfl ?_
     |refine kl_0 ?_)
    all_goals exact⟨g,⟨rfl,rfl,rfl,rfl,(by rw[List.length_replicate];rfl),trivial⟩,Pm.ent pmt⟩
   rintro S As ⟨g,hS,hE⟩
   refine VA.ent hE (v_weak _ hS ?_)
   clear hS hE S As
   refine v_seq (v_vib (fun S As=>leA [(2,.box [ptr a,.bool false]),(3,.box [.int .i64 op,.int .i64 ka,.int .i64 kb,.int .i64 kc,.int .i64 n]),(4,.box [.int .i64 0,.int .i64 0]),(5,.v (.int .i64 j)),(6,.box [.int .i64 1,.int .i64 kb,.int .i64 0,.int .i64 0,.int .i64 (z.born+1),.int .i64 (newCol z.H j),.int .i64 0,.slice g.a (List.replicate kc Pair.no).length g.cap])] S∧Ent As (slA 6 pv g (List.replicate kc Pair.no)::hp a z.bnp)) ?_ ?_)
   ·repeat' (first
     |(refine k_L ?_;first|refine a_p rfl ?_|(refine k_g ?_;first|refine a_gy rfl rfl ?_|refine a_gn rfl rfl ?_|refine a_gu rfl ?_|(refine a_gd rfl (fun hb=>?_) (fun hb=>?_)<;>try(exfalso;omega)))|(refine k_l ?_;refine g_l rfl ?_)|(refine k_st ?_;refine g_sw rfl rfl rfl rfl (Nat.le_of_ble_eq_true rfl) ?_)|(refine k_c ?_;refine a_cq rfl (fun m hm=>qt_e (marking_q (x:=z.bnp.hs) (Has.ph (sep_has hm pmt))) (show Value.bool (decide (Marking z.bnp.hs.H))=.bool (decide (Marking z.H))from rfl)) ?_))
     |refine a_n ?_
     |(refine k_V ?_;first|refine v_seq ?_|refine v_reg ?_|refine v_skip ?_|refine v_ct rfl ?_|refine v_cf rfl ?_|(refine v_cd rfl (fun hb=>?_) (fun hb=>?_)<;>try(exfalso;omega)))
     |refine s_n ?_
     |refine sk_zero ?_
     |refine sk_succ ?_
     |refine wk_nil ?_
     |refine wk_cons ?_)
    all_goals refine⟨⟨rfl,rfl,rfl,rfl,?_,trivial⟩,Pm.ent pmt⟩
    all_goals first
     |(rw[show newCol z.H j=2 by unfold newCol;rw[if_pos];unfold Marking at*;omega];rfl)
     |(rw[show newCol z.H j=0 by unfold newCol;rw[if_neg];unfold Marking at*;omega];rfl)
   rintro S As ⟨hS,hE⟩
   refine VA.ent hE (v_weak _ hS ?_)
   clear hS hE S As
   generalize hy:(⟨Cell.fresh kb (z.born+1) (newCol z.H j) kc,g.a,g.cap⟩:CS)=yn
   obtain⟨w,gw⟩:∃w,z.bnp.regs[ka]?=some w:=⟨_,List.getElem?_eq_getElem (by show ka<z.regs.length;omega)⟩
   have hsl:slA 6 pv g (List.replicate kc Pair.no)=slA 6 pv yn.d yn.c.pairs:=by rw[←hy];rfl
   have hcol:0≤newCol z.H j:=by unfold newCol;split<;>omega
   by_cases hje:j=z.xs.length
   ·have hH:HX.H {z.bnp with xs:=z.xs++[yn],used:=z.used+(1+kc),regs:=z.regs.set ka ⟨2,0,j⟩}=z.H.newH (ka:Int).toNat kb (kc:Int).toNat:=by
     unfold Heap.newH
     rw[hj,Int.toNat_natCast,Int.toNat_natCast,Int.toNat_natCast]
     unfold addC
     rw[if_pos (by rw[zl];exact hje),←hy]
     unfold HX.H HX.bnp
     simp only[List.map_append,List.map_cons,List.map_nil,Heap.mk.injEq,true_and,and_true]
     omega
    repeat' (first
     |(refine k_L ?_;first|refine a_p rfl ?_|(refine k_l ?_;refine g_l rfl ?_))
     |refine a_n ?_
     |(refine k_V ?_;first|refine v_seq ?_|refine v_reg ?_|(refine v_cd rfl (fun hb=>?_) (fun hb=>?_)<;>try(exfalso;omega))))
    refine VA.ent (Bs:=[slA 8 csv z.bnp.cd z.bnp.xs,prA z.bnp.xs,slA 6 pv g (List.replicate kc Pair.no),slA 3 wv z.bnp.rd z.bnp.regs,slA 1 iv z.bnp.gd z.bnp.gray,hdA a z.bnp.hdr]) ?_ ?_
    ·exact(Pm.ent (As1:=[clA z.bnp.cd z.bnp.xs,slA 6 pv g (List.replicate kc Pair.no),hdA a z.bnp.hdr,slA 3 wv z.bnp.rd z.bnp.regs,slA 1 iv z.bnp.gd z.bnp.gray]) pmt).trans (cl_open.trans (Pm.ent pmt))
    refine v_hreg (Gs:=[slA 8 csv z.bnp.cd z.bnp.xs,prA z.bnp.xs,slA 6 pv g (List.replicate kc Pair.no),slA 3 wv z.bnp.rd z.bnp.regs,slA 1 iv z.bnp.gd z.bnp.gray]) [hdA a z.bnp.hdr] ⟨fun m hm=>hm⟩ ?_
    repeat' (first
     |(refine k_L ?_;first|refine a_p rfl ?_|(refine k_l ?_;refine g_l rfl ?_)|(refine k_bl ?_;refine a_bl rfl ?_))
     |refine a_n ?_
     |refine t_a ?_ t_n
     |refine kl_1 rfl ?_
     |refine kl_0 ?_)
    refine g_ap yn csv_len rfl rfl (by rw[←hy];rfl) (by omega) (hb:=by omega) (fun cd'=>?_)
    repeat' (first
     |(refine k_L ?_;first|(refine k_ad ?_;refine g_ad rfl rfl ?_)|(refine k_l ?_;refine g_l rfl ?_)|(refine k_i ?_;refine g_i rfl rfl ?_)|(refine k_st ?_;refine g_st rfl rfl rfl rfl ?_)|(refine b_w ⟨2,0,j⟩ rfl ?_)|(refine b_p rfl ?_))
     |refine a_n ?_
     |(refine k_V ?_;first|refine v_seq ?_|refine v_reg ?_|refine v_dreg ?_)
     |refine t_f ?_ t_n
     |refine t_d ?_
     |refine kl_1 rfl ?_
     |refine kl_0 ?_)
    refine LA.ent (Bs:=hp a ({z.bnp with xs:=z.xs++[yn],cd:=cd',used:=z.used+(1+kc),regs:=z.regs.set ka ⟨2,0,j⟩}:HX)) ?_ ?_
    ·rw[hsl]
     refine((Pm.ent (As1:=[slA 8 csv cd' (z.xs++[yn]),prA z.xs,slA 6 pv yn.d yn.c.pairs,hdA a _,slA 3 wv z.rd (z.regs.set ka ⟨2,0,j⟩),slA 1 iv z.gd z.gray]) pmt).trans (cl_snoc (y:=yn))).trans (Pm.ent (fin ({z.bnp with xs:=z.xs++[yn],cd:=cd',used:=z.used+(1+kc),regs:=z.regs.set ka ⟨2,0,j⟩}:HX) (h1:=by simp[HX.hdr,Hdr.s_room,Hdr.s_used,Hdr.s_born,Hdr.s_phase,Hdr.s_hand,Hdr.s_sub,Hdr.s_per,Hdr.s_start,Hdr.s_rounds,Hdr.s_forced,Hdr.s_rd,Hdr.s_cd,Hdr.s_gd,HX.bnp]) (h2:=by simp[HX.hdr,Hdr.s_room,Hdr.s_used,Hdr.s_born,Hdr.s_phase,Hdr.s_hand,Hdr.s_sub,Hdr.s_per,Hdr.s_start,Hdr.s_rounds,Hdr.s_forced,Hdr.s_rd,Hdr.s_cd,Hdr.s_gd,HX.bnp]) (e1:=by simp[HX.hdr,Hdr.s_room,Hdr.s_used,Hdr.s_born,Hdr.s_phase,Hdr.s_hand,Hdr.s_sub,Hdr.s_per,Hdr.s_start,Hdr.s_rounds,Hdr.s_forced,Hdr.s_rd,Hdr.s_cd,Hdr.s_gd,HX.bnp])))
    refine g_c rfl (pace_a (x:=({z.bnp with xs:=z.xs++[yn],cd:=cd',used:=z.used+(1+kc),regs:=z.regs.set ka ⟨2,0,j⟩}:HX)) (u:=1+(kc:Int)) (by show Sound (HX.H {z.bnp with xs:=z.xs++[yn],used:=z.used+(1+kc),regs:=z.regs.set ka ⟨2,0,j⟩});rw[hH];exact new_sound f1 (by omega) (by omega) (by omega) (by omega)) (by omega)) (fun v' As' hq=>?_)
    obtain⟨r,rfl,hr⟩:=hq
    repeat' (first
     |(refine k_L ?_;first|(refine k_st ?_;refine g_sw rfl rfl rfl rfl (Nat.le_of_ble_eq_true rfl) ?_)|(refine k_c ?_;refine a_cq rfl (fun m hm=>numE_q) ?_))
     |refine a_n ?_
     |(refine k_V ?_;first|refine v_seq ?_|refine v_reg ?_|refine v_ret ?_)
     |refine sk_zero ?_
     |refine sk_succ ?_
     |refine wk_nil ?_
     |refine wk_cons ?_)
    exact fa_r (fun _ _=>rfl) (Pm.ent pmt) ⟨r,rfl,rfl,by rw[hr];exact congrArg (fun K=>K.paceH (1+(kc:Int))) hH⟩
   ·obtain⟨y0,gy0,gc0⟩:=HX.at (x:=z) (i:=j) (by omega)
    have gy0':z.bnp.xs[j]?=some y0:=gy0
    have hH:HX.H {z.bnp with xs:=z.xs.set j yn,used:=z.used+(1+kc),regs:=z.regs.set ka ⟨2,0,j⟩}=z.H.newH (ka:Int).toNat kb (kc:Int).toNat:=by
     unfold Heap.newH
     rw[hj,Int.toNat_natCast,Int.toNat_natCast,Int.toNat_natCast]
     unfold addC
     rw[if_neg (by rw[zl];exact hje),←hy]
     unfold HX.H HX.bnp
     simp only[List.map_set,Heap.mk.injEq,true_and,and_true]
     omega
    repeat' (first
     |(refine k_L ?_;first|refine a_p rfl ?_|(refine k_l ?_;refine g_l rfl ?_)|(refine k_i ?_;refine g_i rfl rfl ?_))
     |refine a_n ?_
     |(refine k_V ?_;first|refine v_seq ?_|refine v_reg ?_|refine v_dreg ?_|(refine v_cd rfl (fun hb=>?_) (fun hb=>?_)<;>try(exfalso;omega))))
    refine LA.ent (Bs:=[slA 8 csv z.bnp.cd z.bnp.xs,slA 6 pv y0.d y0.c.pairs,prA (z.bnp.xs.eraseIdx j),slA 6 pv g (List.replicate kc Pair.no),hdA a z.bnp.hdr,slA 3 wv z.bnp.rd z.bnp.regs,slA 1 iv z.bnp.gd z.bnp.gray]) ?_ ?_
    ·exact(Pm.ent (As1:=[clA z.bnp.cd z.bnp.xs,slA 6 pv g (List.replicate kc Pair.no),hdA a z.bnp.hdr,slA 3 wv z.bnp.rd z.bnp.regs,slA 1 iv z.bnp.gd z.bnp.gray]) pmt).trans ((cl_spl gy0').trans (Pm.ent pmt))
    refine a_st rfl rfl rfl rfl (up_h (up_sl (j:=0) (e':=yn) csv_len gy0' (by simp[Value.cells]) (by rw[←hy];rfl))) ?_
    repeat' (first
     |(refine k_L ?_;first|(refine k_ad ?_;refine g_ad rfl rfl ?_)|(refine k_l ?_;refine g_l rfl ?_)|(refine k_i ?_;refine g_i rfl rfl ?_)|(refine k_st ?_;refine g_st rfl rfl rfl rfl ?_)|(refine b_w ⟨2,0,j⟩ rfl ?_)|(refine b_p rfl ?_))
     |refine a_n ?_
     |(refine k_V ?_;first|refine v_seq ?_|refine v_reg ?_|refine v_dreg ?_))
    refine LA.ent (Bs:=hp a ({z.bnp with xs:=z.xs.set j yn,used:=z.used+(1+kc),regs:=z.regs.set ka ⟨2,0,j⟩}:HX)) ?_ ?_
    ·rw[hsl]
     refine((Pm.ent (As1:=[slA 8 csv z.cd (z.xs.set j yn),slA 6 pv yn.d yn.c.pairs,prA (z.xs.eraseIdx j),hdA a _,slA 3 wv z.rd (z.regs.set ka ⟨2,0,j⟩),slA 1 iv z.gd z.gray]) pmt).trans (cl_joi (y':=yn) (by omega))).trans (Pm.ent (fin ({z.bnp with xs:=z.xs.set j yn,used:=z.used+(1+kc),regs:=z.regs.set ka ⟨2,0,j⟩}:HX) (h1:=by simp[HX.hdr,Hdr.s_room,Hdr.s_used,Hdr.s_born,Hdr.s_phase,Hdr.s_hand,Hdr.s_sub,Hdr.s_per,Hdr.s_start,Hdr.s_rounds,Hdr.s_forced,Hdr.s_rd,Hdr.s_cd,Hdr.s_gd,HX.bnp]) (h2:=by simp[HX.hdr,Hdr.s_room,Hdr.s_used,Hdr.s_born,Hdr.s_phase,Hdr.s_hand,Hdr.s_sub,Hdr.s_per,Hdr.s_start,Hdr.s_rounds,Hdr.s_forced,Hdr.s_rd,Hdr.s_cd,Hdr.s_gd,HX.bnp]) (e1:=by simp[HX.hdr,Hdr.s_room,Hdr.s_used,Hdr.s_born,Hdr.s_phase,Hdr.s_hand,Hdr.s_sub,Hdr.s_per,Hdr.s_start,Hdr.s_rounds,Hdr.s_forced,Hdr.s_rd,Hdr.s_cd,Hdr.s_gd,HX.bnp])))
    refine g_c rfl (pace_a (x:=({z.bnp with xs:=z.xs.set j yn,used:=z.used+(1+kc),regs:=z.regs.set ka ⟨2,0,j⟩}:HX)) (u:=1+(kc:Int)) (by show Sound (HX.H {z.bnp with xs:=z.xs.set j yn,used:=z.used+(1+kc),regs:=z.regs.set ka ⟨2,0,j⟩});rw[hH];exact new_sound f1 (by omega) (by omega) (by omega) (by omega)) (by omega)) (fun v' As' hq=>?_)
    obtain⟨r,rfl,hr⟩:=hq
    repeat' (first
     |(refine k_L ?_;first|(refine k_st ?_;refine g_sw rfl rfl rfl rfl (Nat.le_of_ble_eq_true rfl) ?_)|(refine k_c ?_;refine a_cq rfl (fun m hm=>numE_q) ?_))
     |refine a_n ?_
     |(refine k_V ?_;first|refine v_seq ?_|refine v_reg ?_|refine v_ret ?_)
     |refine sk_zero ?_
     |refine sk_succ ?_
     |refine wk_nil ?_
     |refine wk_cons ?_)
    exact fa_r (fun _ _=>rfl) (Pm.ent pmt) ⟨r,rfl,rfl,by rw[hr];exact congrArg (fun K=>K.paceH (1+(kc:Int))) hH⟩
  ·rw[if_neg c2]
   repeat' (first
    |(refine k_L ?_;first|(refine k_ad ?_;refine g_ad rfl rfl ?_)|refine a_p rfl ?_|(refine k_g ?_;first|refine a_gy rfl rfl ?_|(refine a_gd rfl (fun hb=>?_) (fun hb=>?_)<;>try(exfalso;omega)))|(refine k_l ?_;refine g_l rfl ?_)|(refine k_st ?_;refine g_sw rfl rfl rfl rfl (Nat.le_of_ble_eq_true rfl) ?_)|(refine k_al ?_;refine a_al ?_)|(refine k_bx ?_;refine a_bx rfl rfl ?_)|(refine k_c ?_;refine a_cq rfl (fun m hm=>codeE_q) ?_)|(refine g_c rfl (fits_a (x:=x) (u:=1+(kc:Int)) h (by omega)) (fun v As' hq=>?_);obtain⟨z,rfl,rfl,hz⟩:=hq))
    |refine a_n ?_
    |(refine k_V ?_;first|refine v_seq ?_|refine v_reg ?_|refine v_ret ?_|refine v_skip ?_|(refine v_cnd rfl (fun hb=>?_) (fun hb=>?_)<;>try(exfalso;omega)))
    |refine s_r ?_
    |refine sk_zero ?_
    |refine sk_succ ?_
    |refine wk_nil ?_
    |refine wk_cons ?_)
   all_goals first
    |(exfalso;rw[hF]at hb;omega)
    |exact fa_r (fun _ _=>rfl) (Pm.ent pmt) ⟨z,rfl,rfl,by rw[hz,hF]⟩
    |trace_state
theorem Hue.symm{H K:Heap}(h:Hue H K):Hue K H:=
 ⟨h.len.symm,fun j=>by rw[h.cell j];rfl,h.regs.symm,h.room.symm,h.born.symm,h.per.symm,h.start.symm,h.forced.symm⟩
theorem Hue.back{H K:Heap}(h:Hue H K)(hd:∀j:Int,Doomed K j→Doomed H j):∀b n,Node H b n→Node K b n:=(h.symm.iso hd).node
theorem enter_back{H:Heap}{p:Int}(hp:p≠3):∀b n,Node H b n→Node (H.enterH p) b n:=
 (hue_same rfl rfl rfl rfl rfl rfl rfl:Hue H (H.enterH p)).back fun j h=>absurd h.1 hp
theorem roots_back{H:Heap}(h:Sound H)(hp:H.phase=1):∀b n,Node H b n→Node H.rootsU b n:=by
 have h0:=h.r1.hand
 unfold Heap.rootsU
 split
 ·exact enter_back (by omega)
 ·refine Hue.back ?_ (fun j hd=>?_)
  ·split
   ·exact(hue_shadeH (by omega)).trans (hue_same rfl rfl rfl rfl rfl rfl rfl)
   ·exact hue_same rfl rfl rfl rfl rfl rfl rfl
  ·have:(if Root (H.getC H.hand)then H.shadeH H.hand.toNat else H).phase=3:=hd.1
   split at this
   ·have e:(H.shadeH H.hand.toNat).phase=H.phase:=by unfold Heap.shadeH;split<;>rfl
    omega
   ·omega
theorem mark_back{H:Heap}(h:Sound H)(hp:H.phase=2)(hn:H.markU.phase≠3):∀b n,Node H b n→Node H.markU b n:=by
 have hi:=mark_iso h hp
 revert hn
 unfold Heap.markU
 cases hg:H.gray with
 |nil=>
  simp only
  split
  ·intro hn
   exact(hue_shadeL H.regs H (fun w hw=>(reg_used h.r4 hw).1)).back (fun j hd=>absurd hd.1 hn)
  ·intro hn;exact absurd rfl hn
 |cons g r=>
  simp only
  obtain⟨g1,g2,g3⟩:=h.r5.mark (.inr hp)
  obtain⟨b0,b1,b2,b3⟩:=g2 g (by rw[hg];simp)
  cases hs:(H.getC g).pairs[H.sub.toNat]? with
  |none=>
   simp only
   intro hn
   refine Hue.back (hue_set (i:=g.toNat) (k:=2) (by omega) ?_ rfl rfl rfl rfl rfl rfl) (fun j hd=>absurd hd.1 hn)
   rw[show((g.toNat:Nat):Int)=g by omega];rfl
  |some p=>
   simp only
   intro hn
   obtain⟨⟨k1,k2⟩,v1,v2⟩:=markP h hp hg hs
   have a:=hue_shadeW k1
   have b:=hue_shadeW (H:=H.shadeW p.key) (w:=p.val) (formed_len a.len v1)
   exact Hue.back (Hue.trans (a.trans b) (hue_same rfl rfl rfl rfl rfl rfl rfl)) (fun j hd=>absurd hd.1 hn)
theorem sweep_back{H:Heap}(h:Sound H)(hp:H.phase=3):∀b n,Node H b n→Node H.sweepU b n:=by
 have h0:=h.r1.hand
 unfold Heap.sweepU
 split
 ·exact enter_back (by omega)
 rename_i hh
 have hc:=getL_some (cs:=H.cells) h0.1 (by omega)
 rw[←getC_L]at hc
 have hlt:=(List.getElem?_eq_some_iff.1 hc).1
 have eh:((H.hand.toNat:Nat):Int)=H.hand:=by omega
 split
 ·rename_i hc0
  have hdh:Doomed H H.hand:=⟨hp,hc0.1,hc0.2,by omega⟩
  generalize hK:({H with used:=H.used-(1+(H.getC H.hand).pairs.length),cells:=H.cells.set H.hand.toNat Cell.zero,hand:=H.hand+1}:Heap)=K
  have gC:∀j:Int,0≤j→j≠H.hand→K.getC j=H.getC j:=fun j j0 hj=>by
   rw[getC_L,getC_L,←hK,getL_set hlt,if_neg (by omega)]
  refine(iso_direct (H:=K) (K:=H) (by rw[←hK]) (fun w hw hk=>?_) (fun i c hc1 hs1 hd=>?_) (by rw[←hK]) (by rw[←hK]) (by rw[←hK]) (by rw[←hK]) (by rw[←hK])).node
  ·rw[←hK]at hw
   obtain⟨a,b⟩:=reg_used h.r4 hw
   have hat:=a.at hk
   obtain⟨b1,b2⟩:=b hk
   have e2:=gC _ hat.1 (fun e=>b2 (by rw[e];exact hdh))
   exact⟨by rw[e2];exact b1,e2.symm⟩
  ·have hne:(i:Int)≠H.hand:=fun e=>hd (by rw[e];exact hdh)
   have e2:=gC i (by omega) hne
   refine⟨?_,fun hd'=>hd ⟨hp,by rw[←e2];exact hd'.2.1,by rw[←e2];exact hd'.2.2.1,?_⟩,fun p hp' w hw hk=>?_⟩
   ·rw[e2,getC_nat hc1,←hK]
    show(H.cells.set H.hand.toNat Cell.zero)[i]?=some c
    rw[List.getElem?_set,if_neg (by omega)];exact hc1
   ·have:=hd'.2.2.2
    rw[←hK]at this
    have:H.hand+1≤(i:Int):=this
    omega
   ·obtain⟨k,hk'⟩:=List.getElem?_of_mem hp'
    have m:=pair_used h.r4 hc1 hk' (not_mend (by omega) _ _) hd hw
    obtain⟨b1,b2⟩:=m.2 hk
    have e3:=gC w.at_ (m.1.at hk).1 (fun e=>b2 (by rw[e];exact hdh))
    rw[e3]
    exact⟨b1,b1,rfl⟩
 ·rename_i hc0
  refine Hue.back (hue_set (i:=H.hand.toNat) (k:=0) hlt (by rw[eh]) rfl rfl rfl rfl rfl rfl) (fun j hd=>?_)
  have h4:H.hand+1≤j:=hd.2.2.2
  have gC:Heap.getC {H with cells:=H.cells.set H.hand.toNat ((H.getC H.hand).col 0),hand:=H.hand+1} j=H.getC j:=by
   rw[getC_L,getL_set hlt,if_neg (by omega)];rfl
  exact⟨hd.1,by rw[←gC];exact hd.2.1,by rw[←gC];exact hd.2.2.1,by omega⟩
theorem move_back{H:Heap}(h:Sound H)(hp:H.phase=4):∀b n,Node H b n→Node H.moveU b n:=by
 have nd:∀j:Int,¬Doomed H j:=fun j=>not_doom (by omega) j
 unfold Heap.moveU
 obtain⟨a1,a2,a3,a4⟩:=frG_ok H H.cells.length
 obtain⟨b1,b2,b3,b4⟩:=luG_ok H H.cells.length
 split
 ·exact enter_back (by omega)
 rename_i hlt
 have sf:=(a3 (by omega)).2
 have su:=b3 (by omega)
 generalize frG H H.cells.length=f at*
 generalize luG H H.cells.length=u at*
 have key:=moved_aw h hp ⟨a1,by omega⟩ b2 sf su
 have ndK:∀j:Int,¬Doomed (H.moved f u) j:=fun j=>not_doom (by show H.phase≠3;omega) j
 have hcu:=getL_some (cs:=H.cells) (j:=u) (by omega) (by omega)
 rw[←getC_L]at hcu
 intro b n hn
 obtain⟨i,c,h1,h2,h3,h4,h5⟩:=hn
 have hi:=(List.getElem?_eq_some_iff.1 h1).1
 have hw:n=⟨c.kind,c.weak,c.last,c.pairs.map (H.moved f u).ap⟩:=by
  rw[h5]
  congr 1
  refine List.map_congr_left fun p hp'=>?_
  obtain⟨k,hk'⟩:=List.getElem?_of_mem hp'
  obtain⟨p1,p2,p3⟩:=h.r4.pairs i c h1 k p hk'
  obtain⟨q1,q2⟩:=p3 (nd i)
  unfold Heap.ap
  rw[key _ p1 ⟨_,q1⟩,key _ p2 ⟨_,q2⟩]
 by_cases e:i=u.toNat
 ·subst e
  rw[hcu]at h1
  cases h1
  refine⟨f.toNat,_,?_,h2,ndK _,h4,hw⟩
  show((H.cells.set f.toNat (H.getC u)).set u.toNat (Cell.gone f))[f.toNat]?=_
  rw[List.getElem?_set,if_neg (by omega),List.getElem?_set,if_pos rfl,if_pos (by omega)]
 ·have e2:i≠f.toNat:=fun e2=>by
   have:=getC_nat h1
   rw[e2,show((f.toNat:Nat):Int)=f by omega]at this
   rw[this]at sf;omega
  refine⟨i,c,?_,h2,ndK _,h4,hw⟩
  show((H.cells.set f.toNat (H.getC u)).set u.toNat (Cell.gone f))[i]?=_
  rw[List.getElem?_set,if_neg (by omega),List.getElem?_set,if_neg (by omega)];exact h1
theorem mend_back{H:Heap}(h:Sound H)(hp:H.phase=5):∀b n,Node H b n→Node H.mendU b n:=by
 have nd:∀j:Int,¬Doomed H j:=fun j=>not_doom (by omega) j
 have h0:=h.r1.hand
 unfold Heap.mendU
 split
 ·exact enter_back (by omega)
 rename_i hh
 have hc:=getL_some (cs:=H.cells) h0.1 (by omega)
 rw[←getC_L]at hc
 have hlt:=(List.getElem?_eq_some_iff.1 hc).1
 cases hs:(H.getC H.hand).pairs[H.sub.toNat]? with
 |none=>simp only;exact(hue_same rfl rfl rfl rfl rfl rfl rfl:Hue H {H with hand:=H.hand+1,sub:=0}).back fun j hd=>by have:H.phase=3:=hd.1;omega
 |some p=>
  simp only
  have e0:H.phase≠3:=by omega
  generalize hq:(⟨H.lead p.key,H.lead p.val⟩:Pair)=q
  generalize hK:({H with cells:=H.cells.set H.hand.toNat {H.getC H.hand with pairs:=(H.getC H.hand).pairs.set H.sub.toNat q},sub:=H.sub+1}:Heap)=K
  have e1:K.cells=H.cells.set H.hand.toNat {H.getC H.hand with pairs:=(H.getC H.hand).pairs.set H.sub.toNat q}:=by rw[←hK]
  have ndK:∀j:Int,¬Doomed K j:=fun j=>not_doom (by rw[←hK];exact e0) j
  have gC:∀j:Int,(K.getC j).state=(H.getC j).state∧(K.getC j).to=(H.getC j).to∧(K.getC j).born=(H.getC j).born:=fun j=>by
   rw[getC_L,getC_L,e1,getL_set hlt]
   split
   ·rename_i e
    have:H.getC j=H.getC H.hand:=by rw[getC_L,getC_L];unfold getL;rw[e]
    show _=(H.getC j).state∧_=(H.getC j).to∧_=(H.getC j).born
    rw[this];exact⟨rfl,rfl,rfl⟩
   ·exact⟨rfl,rfl,rfl⟩
  have haw:K.aw=H.aw:=by
   funext w
   have hl:K.lead w=H.lead w:=by unfold Heap.lead;rw[(gC _).1,(gC _).2.1]
   unfold Heap.aw
   rw[hl,(gC _).2.2]
  have hap:K.ap=H.ap:=by funext p;unfold Heap.ap;rw[haw]
  intro b n hn
  obtain⟨i,c,h1,h2,h3,h4,h5⟩:=hn
  by_cases e:i=H.hand.toNat
  ·subst e
   rw[hc]at h1
   cases h1
   refine⟨H.hand.toNat,{H.getC H.hand with pairs:=(H.getC H.hand).pairs.set H.sub.toNat q},?_,h2,ndK _,h4,?_⟩
   ·rw[e1,List.getElem?_set,if_pos rfl,if_pos hlt]
   ·rw[h5,hap]
    congr 1
    obtain⟨p1,p2,p3⟩:=h.r4.pairs _ _ hc _ p hs
    obtain⟨q1,q2⟩:=p3 (nd _)
    have l1:=lead_fm h.r2 p1 q1 nd
    have l2:=lead_fm h.r2 p2 q2 nd
    have:H.ap q=H.ap p:=by
     rw[←hq]
     unfold Heap.ap
     rw[lead_lead (fun hk=>l1.2 (lead_kind.2 hk)),lead_lead (fun hk=>l2.2 (lead_kind.2 hk))]
    show _=List.map H.ap ((H.getC H.hand).pairs.set H.sub.toNat q)
    rw[List.map_set,this]
    refine List.ext_getElem? fun k=>?_
    rw[List.getElem?_set]
    split
    ·rename_i e
     subst e
     rw[List.getElem?_map,hs]
     rw[if_pos (by rw[List.length_map];exact(List.getElem?_eq_some_iff.1 hs).1)];rfl
    ·rfl
  ·refine⟨i,c,?_,h2,ndK _,h4,by rw[h5,hap]⟩
   rw[e1,List.getElem?_set,if_neg (by omega)];exact h1
theorem close_back{H:Heap}(h:Sound H)(hp:H.phase=6):∀b n,Node H b n→Node H.closeU b n:=by
 have nd:∀j:Int,¬Doomed H j:=fun j=>not_doom (by omega) j
 have h0:=h.r1.hand
 obtain⟨l1,l2⟩:=lead1 h hp
 unfold Heap.closeU
 split
 ·exact(hue_same rfl rfl rfl rfl rfl rfl rfl:Hue H {H.enterH 0 with rounds:=if H.rounds<1000000000 then H.rounds+1 else H.rounds}).back fun j hd=>by have:(0:Int)=3:=hd.1;omega
 rename_i hh
 have hc:=getL_some (cs:=H.cells) (j:=H.hand-1) (by omega) (by omega)
 rw[←getC_L]at hc
 have hlt:=(List.getElem?_eq_some_iff.1 hc).1
 have hl:H.closeA.length=H.cells.length:=by unfold Heap.closeA;split<;>simp
 have gA:∀(i:Nat) c,H.cells[i]?=some c→c.state=1→H.closeA[i]?=some c:=fun i c hi hs=>by
  unfold Heap.closeA
  split
  ·rename_i e
   rw[List.getElem?_set,if_neg (fun e2=>by
    have:=getC_nat hi
    rw[←e2,show(((H.hand-1).toNat:Nat):Int)=H.hand-1 by omega]at this
    rw[this]at e;omega)]
   exact hi
  ·exact hi
 generalize hX:(if H.hand=H.cells.length∧(getL H.closeA (H.hand-1)).state=0 then H.closeA.take (H.hand-1).toNat else H.closeA)=X
 have gX:∀(i:Nat) c,H.cells[i]?=some c→c.state=1→X[i]?=some c:=fun i c hi hs=>by
  rw[←hX]
  have h1:=gA i c hi hs
  split
  ·rename_i e
   have hil:=(List.getElem?_eq_some_iff.1 hi).1
   rw[List.getElem?_take,if_pos ?_]
   ·exact h1
   ·have:i≠(H.hand-1).toNat:=fun e2=>by
     rw[getL_at h1 (by omega)]at e
     omega
    omega
  ·exact h1
 have gY:∀j:Int,0≤j→j<H.cells.length→(H.getC j).state=1→getL X j=H.getC j:=fun j j0 j1 hj=>by
  have h1:=getL_some (cs:=H.cells) j0 j1
  rw[←getC_L]at h1
  exact getL_at (gX _ _ h1 hj) rfl
 refine(iso_direct (H:={H with hand:=H.hand-1,cells:=X}) (K:=H) rfl (fun w hw hk=>?_) (fun i c hc1 hs1 hd=>?_) rfl rfl rfl rfl rfl).node
 ·have a:=l1 w hw
  have hat:=a.1.at hk
  have e:Heap.getC {H with hand:=H.hand-1,cells:=X} w.at_=H.getC w.at_:=gY _ hat.1 hat.2 (a.2 hk)
  rw[e]
  exact⟨a.2 hk,rfl⟩
 ·have h2:=gX i c hc1 hs1
  have e:Heap.getC {H with hand:=H.hand-1,cells:=X} i=c:=getL_at h2 (by omega)
  rw[e]
  refine⟨h2,fun hd=>by have:H.phase=3:=hd.1;omega,fun p hp' w hw hk=>?_⟩
  obtain⟨k,hk'⟩:=List.getElem?_of_mem hp'
  have a:=l2 i c hc1 k p hk' w hw
  have hat:=a.1.at hk
  have e:Heap.getC {H with hand:=H.hand-1,cells:=X} w.at_=H.getC w.at_:=gY _ hat.1 hat.2 (a.2 hk)
  rw[e]
  exact⟨a.2 hk,a.2 hk,rfl⟩
theorem unit_back{H:Heap}(h:Sound H)(hn:¬(H.phase=2∧H.unitH.phase=3)):∀b n,Node H b n→Node H.unitH b n:=by
 revert hn
 unfold Heap.unitH
 split
 ·exact fun _=>roots_back h ‹_›
 split
 ·rename_i e;exact fun hn=>mark_back h e (fun x=>hn ⟨e,x⟩)
 split
 ·exact fun _=>sweep_back h ‹_›
 split
 ·exact fun _=>move_back h ‹_›
 split
 ·exact fun _=>mend_back h ‹_›
 split
 ·exact fun _=>close_back h ‹_›
 exact fun _ b n x=>x
def IsC(w:Word)(b:Int):Prop:=w.kind=2∧w.at_=b
inductive ReachB (H:Heap):Int→Prop
 |reg {w:Word} {b:Int}:w∈H.regs.map H.aw→IsC w b→ReachB H b
 |root {b:Int} {n:Nd}:Node H b n→(n.last=1∨n.last=2)→ReachB H b
 |pair {b d:Int} {n:Nd} {p:Pair} {w:Word}:ReachB H b→Node H b n→p∈n.pairs→(w=p.key∨w=p.val)→IsC w d→ReachB H d
theorem aw_tgt{H:Heap}(h2:R2 H){w:Word}{m:Prop}(hf:Formed H w)(hl:LeadsWell H w m){b:Int}:IsC (H.aw w) b↔∃j,H.tgt w=some j∧(H.getC j).born=b:=by
 unfold Heap.aw Heap.tgt IsC
 by_cases hk:w.kind=2
 ·rw[if_pos hk,if_pos (lead_kind.2 hk)]
  have hat:=lead_at h2 hf hk
  constructor
  ·intro⟨_,e⟩
   exact⟨_,rfl,by rw[show(((H.lead w).at_.toNat:Nat):Int)=(H.lead w).at_ by omega];exact e⟩
  ·rintro⟨j,e1,e2⟩
   simp only[Option.some.injEq]at e1
   subst e1
   rw[show(((H.lead w).at_.toNat:Nat):Int)=(H.lead w).at_ by omega]at e2
   exact⟨rfl,e2⟩
 ·rw[if_neg hk,if_neg (fun e=>hk (lead_kind.1 e))]
  exact⟨fun e=>absurd e.1 hk,fun⟨j,e,_⟩=>by cases e⟩
theorem node_at{H:Heap}{i:Nat}{c:Cell}(hc:H.cells[i]?=some c)(hs:c.state=1)(hd:¬Doomed H i):Node H c.born ⟨c.kind,c.weak,c.last,c.pairs.map H.ap⟩:=⟨i,c,hc,hs,hd,rfl,rfl⟩
theorem reach_b{H:Heap}(h:Sound H){i:Nat}(hr:Reached H i):ReachB H (H.getC i).born:=by
 induction hr with
 | @reg w j h1 h2=>
   obtain⟨a,b⟩:=h.r4.regs w h1
   exact .reg (List.mem_map.2 ⟨w,h1,rfl⟩) ((aw_tgt h.r2 a b).2 ⟨_,h2,rfl⟩)
 | @root i c h1 h2=>
   have hd:¬Doomed H i:=fun hd=>h.r4.roots _ _ h1 hd h2
   rw[getC_nat h1]
   exact .root (node_at h1 h2.1 hd) h2.2
 | @pair i j c p w h1 h2 h3 h4 h5 ih=>
   obtain⟨c',a1,a2,a3⟩:=reached_ok h.r2 h.r4 h1
   rw[h2]at a1
   cases a1
   rw[getC_nat h2]at ih
   obtain⟨k,hk⟩:=List.getElem?_of_mem h3
   obtain⟨p1,p2,p3⟩:=h.r4.pairs i c h2 k p hk
   obtain⟨q1,q2⟩:=p3 a3
   refine .pair (p:=H.ap p) (w:=H.aw w) ih (node_at h2 a2 a3) (List.mem_map.2 ⟨p,h3,rfl⟩) (by rcases h4 with rfl|rfl;exact .inl rfl;exact .inr rfl) ?_
   rcases h4 with rfl|rfl
   ·exact(aw_tgt h.r2 p1 q1).2 ⟨_,h5,rfl⟩
   ·exact(aw_tgt h.r2 p2 q2).2 ⟨_,h5,rfl⟩
theorem born_one{H:Heap}(h:R2 H){i j:Nat}{c d:Cell}(hc:H.cells[i]?=some c)(hd:H.cells[j]?=some d)(sc:c.state=1)(sd:d.state=1)(e:c.born=d.born):i=j∧c=d:=by
 have:i=j:=by
  rcases Nat.lt_trichotomy i j with x|x|x
  ·exact absurd e (h.born i j c d hc hd x sc sd)
  ·exact x
  ·exact absurd e.symm (h.born j i d c hd hc x sd sc)
 subst this
 rw[hc]at hd
 cases hd;exact⟨rfl,rfl⟩
theorem b_reach{H:Heap}(h:Sound H){b:Int}(hr:ReachB H b):∃(i:Nat) (c:Cell),H.cells[i]?=some c∧c.state=1∧¬Doomed H i∧c.born=b∧Reached H i:=by
 induction hr with
 | @reg w b h1 h2=>
   obtain⟨v,hv,rfl⟩:=List.mem_map.1 h1
   obtain⟨a,l⟩:=h.r4.regs v hv
   obtain⟨j,e1,e2⟩:=(aw_tgt h.r2 a l).1 h2
   have hr:Reached H j:=.reg hv e1
   obtain⟨c,c1,c2,c3⟩:=reached_ok h.r2 h.r4 hr
   rw[getC_nat c1]at e2
   exact⟨j,c,c1,c2,c3,e2,hr⟩
 | @root b n h1 h2=>
   obtain⟨i,c,a1,a2,a3,a4,rfl⟩:=h1
   exact⟨i,c,a1,a2,a3,a4,.root a1 ⟨a2,h2⟩⟩
 | @pair b d n p w _ h2 h3 h4 h5 ih=>
   obtain⟨i,c,a1,a2,a3,a4,a5⟩:=ih
   obtain⟨i',c',d1,d2,d3,d4,rfl⟩:=h2
   obtain⟨rfl,rfl⟩:=born_one h.r2 a1 d1 a2 d2 (a4.trans d4.symm)
   obtain⟨q,hq,rfl⟩:=List.mem_map.1 h3
   obtain⟨k,hk⟩:=List.getElem?_of_mem hq
   obtain⟨p1,p2,p3⟩:=h.r4.pairs i c a1 k q hk
   obtain⟨q1,q2⟩:=p3 a3
   have key:∀v,(v=q.key∨v=q.val)→Formed H v→LeadsWell H v (¬Mended H i k)→IsC (H.aw v) d→∃(i:Nat) (c:Cell),H.cells[i]?=some c∧c.state=1∧¬Doomed H i∧c.born=d∧Reached H i:=fun v hv hf hl hc=>by
    obtain⟨j,e1,e2⟩:=(aw_tgt h.r2 hf hl).1 hc
    have hr:Reached H j:=.pair a5 a1 hq hv e1
    obtain⟨c2,x1,x2,x3⟩:=reached_ok h.r2 h.r4 hr
    rw[getC_nat x1]at e2
    exact⟨j,c2,x1,x2,x3,e2,hr⟩
   rcases h4 with rfl|rfl
   ·exact key q.key (.inl rfl) p1 q1 h5
   ·exact key q.val (.inr rfl) p2 q2 h5
theorem reach_iff{H:Heap}(h:Sound H){i:Nat}{c:Cell}(hc:H.cells[i]?=some c)(hs:c.state=1):Reached H i↔ReachB H c.born:=by
 constructor
 ·intro hr
  have:=reach_b h hr
  rw[getC_nat hc]at this;exact this
 ·intro hr
  obtain⟨j,d,d1,d2,d3,d4,d5⟩:=b_reach h hr
  obtain⟨rfl,rfl⟩:=born_one h.r2 d1 hc d2 hs d4
  exact d5
theorem enter3_keeps{H:Heap}(h:Sound H)(hs:Sound (H.enterH 3)){i:Nat}(hr:Reached H i):¬Doomed (H.enterH 3) i:=by
 have:Reached (H.enterH 3) i:=by
  induction hr with
  |reg h1 h2=>exact .reg h1 h2
  |root h1 h2=>exact .root h1 h2
  |pair _ h2 h3 h4 h5 ih=>exact .pair ih h2 h3 h4 h5
 obtain⟨c,_,_,hd⟩:=reached_ok hs.r2 hs.r4 this
 exact hd
theorem unit_keep{H:Heap}(h:Sound H){b:Int}{n:Nd}(hn:Node H b n)(hr:ReachB H b):Node H.unitH b n:=by
 by_cases e:H.phase=2∧H.unitH.phase=3
 ·have e2:H.unitH=H.enterH 3:=by
   have e3:=e.2
   unfold Heap.unitH at e3⊢
   rw[if_neg (by omega),if_pos e.1]at e3⊢
   have hne:∀K:Heap,Sh H K→K.phase≠3:=fun K hK=>by rw[hK.phase];omega
   unfold Heap.markU at e3⊢
   cases hg:H.gray with
   |nil=>
    rw[hg]at e3
    simp only at e3⊢
    split at e3
    ·exact absurd e3 (hne _ (shadeL_ok H.regs H (fun w hw=>⟨(reg_used h.r4 hw).1,fun hk=>((reg_used h.r4 hw).2 hk).1⟩)).1)
    ·rename_i hx;rw[if_neg hx]
   |cons g r=>
    rw[hg]at e3
    simp only at e3
    cases hs:(H.getC g).pairs[H.sub.toNat]? with
    |none=>
     rw[hs]at e3
     have:H.phase=3:=e3
     omega
    |some p=>
     rw[hs]at e3
     have:((H.shadeW p.key).shadeW p.val).phase=3:=e3
     exact absurd this (hne _ (markP2 h e.1 hg hs).1)
  rw[e2]
  have hs:=unit_sound h
  rw[e2]at hs
  obtain⟨i,c,a1,a2,a3,a4,a5⟩:=hn
  have hri:=(reach_iff h a1 a2).2 (by rw[a4];exact hr)
  refine⟨i,c,a1,a2,enter3_keeps h hs hri,a4,a5⟩
 ·exact unit_back h e b n hn
theorem unit_reach{H:Heap}(h:Sound H){b:Int}:ReachB H.unitH b↔ReachB H b:=by
 have i:=unit_iso h
 constructor
 ·intro hr
  induction hr with
  |reg h1 h2=>exact .reg (by rw[←i.regs];exact h1) h2
  |root h1 h2=>exact .root (i.node _ _ h1) h2
  |pair _ h2 h3 h4 h5 ih=>exact .pair ih (i.node _ _ h2) h3 h4 h5
 ·intro hr
  induction hr with
  |reg h1 h2=>exact .reg (by rw[i.regs];exact h1) h2
  |root h1 h2=>exact .root (unit_keep h h1 (.root h1 h2)) h2
  |pair h1 h2 h3 h4 h5 ih=>exact .pair ih (unit_keep h h2 h1) h3 h4 h5
def Vis(H:Heap)(b:Int)(n:Nd):Prop:=Node H b n∧ReachB H b
theorem unit_vis{H:Heap}(h:Sound H){b:Int}{n:Nd}:Vis H.unitH b n↔Vis H b n:=
 ⟨fun x=>⟨(unit_iso h).node _ _ x.1,(unit_reach h).1 x.2⟩,fun x=>⟨unit_keep h x.1 x.2,(unit_reach h).2 x.2⟩⟩
theorem sum_erase{a:Int×Int}:∀{u:List (Int×Int)},a∈u→(u.map Prod.snd).sum=a.2+((u.erase a).map Prod.snd).sum
 |[],h=>by cases h
 |b::r,h=>by
  by_cases e:b=a
  ·subst e
   rw[List.erase_cons_head];simp
  ·rw[List.erase_cons_tail (by simpa using e)]
   have hm:a∈r:=by
    rcases List.mem_cons.1 h with x|x
    ·exact absurd x.symm e
    ·exact x
   have:=sum_erase hm
   simp only[List.map_cons,List.sum_cons];omega
theorem sum_nn:∀{u:List (Int×Int)},(∀x,x∈u→0≤x.2)→0≤(u.map Prod.snd).sum
 |[],_=>by simp
 |b::r,h=>by
  have:=sum_nn (u:=r) (fun x hx=>h x (by simp[hx]))
  have:=h b (by simp)
  simp only[List.map_cons,List.sum_cons];omega
theorem sum_sub:∀(l u:List (Int×Int)),l.Nodup→(∀x,x∈l→x∈u)→(∀x,x∈u→0≤x.2)→(l.map Prod.snd).sum≤(u.map Prod.snd).sum
 |[],u,_,_,h=>by simpa using sum_nn h
 |a::r,u,hn,h,h0=>by
  have ha:=h a (by simp)
  obtain⟨h1,h2⟩:=List.nodup_cons.1 hn
  have:=sum_sub r (u.erase a) h2 (fun x hx=>(List.mem_erase_of_ne (fun e=>h1 (by rw[←e];exact hx))).2 (h x (by simp[hx]))) (fun x hx=>h0 x (List.mem_of_mem_erase hx))
  rw[sum_erase ha]
  simp only[List.map_cons,List.sum_cons];omega
noncomputable def posL(H:Heap)(P:Nat→Prop):List (Int×Int):=((List.range H.cells.length).filter fun i=>decide (P i)).map fun i:Nat=>((H.getC i).born,(H.getC i).units)
theorem sumT_posL{H:Heap}{P:Nat→Prop}{L:List Bool}(hL:∀i,i<H.cells.length→(L[i]?=some true↔P i)):sumT H L H.cells.length=((posL H P).map Prod.snd).sum:=by
 have key:∀k:Nat,k≤H.cells.length→sumT H L k=((((List.range k).filter fun i=>decide (P i)).map fun i:Nat=>((H.getC i).born,(H.getC i).units)).map Prod.snd).sum:=by
  intro k
  induction k with
  |zero=>intro _;simp[sumT]
  |succ k ih=>
   intro hk
   have ih:=ih (by omega)
   rw[List.range_succ,List.filter_append,List.map_append,List.map_append,List.sum_append,←ih]
   simp only[sumT]
   by_cases hp:P k
   ·rw[if_pos ((hL k (by omega)).2 hp)]
    simp[hp]
   ·rw[if_neg (fun x=>hp ((hL k (by omega)).1 x))]
    simp[hp]
 exact key _ (Nat.le_refl _)
theorem posL_mem{H:Heap}(h:Sound H){P:Nat→Prop}{Q:Int→Prop}(hP:∀i,P i→∃c,H.cells[i]?=some c∧c.state=1∧¬Doomed H i)(hQ:∀(i:Nat) c,H.cells[i]?=some c→c.state=1→¬Doomed H i→(P i↔Q c.born))(x:Int×Int):
 x∈posL H P↔∃n,Node H x.1 n∧Q x.1∧x.2=1+n.pairs.length:=by
 unfold posL
 constructor
 ·intro hx
  obtain⟨i,hi,rfl⟩:=List.mem_map.1 hx
  obtain⟨_,hp⟩:=List.mem_filter.1 hi
  have hp:P i:=by simpa using hp
  obtain⟨c,c1,c2,c3⟩:=hP i hp
  have e:=getC_nat c1
  refine⟨_,by rw[e];exact node_at c1 c2 c3,by rw[e];exact(hQ i c c1 c2 c3).1 hp,?_⟩
  show(H.getC i).units=_
  rw[e];unfold Cell.units
  rw[if_pos c2];simp
 ·rintro⟨n,⟨i,c,c1,c2,c3,c4,rfl⟩,hq,hu⟩
  have e:=getC_nat c1
  refine List.mem_map.2 ⟨i,List.mem_filter.2 ⟨List.mem_range.2 (List.getElem?_eq_some_iff.1 c1).1,by simpa using(hQ i c c1 c2 c3).2 (by rw[c4];exact hq)⟩,?_⟩
  refine Prod.ext ?_ ?_
  ·show(H.getC i).born=_;rw[e,c4]
  ·show(H.getC i).units=_
   rw[e,hu];unfold Cell.units
   rw[if_pos c2];simp
theorem posL_nodup{H:Heap}(h:Sound H){P:Nat→Prop}(hP:∀i,P i→∃c,H.cells[i]?=some c∧c.state=1∧¬Doomed H i):(posL H P).Nodup:=by
 unfold posL
 refine List.pairwise_map.2 (List.Pairwise.imp_of_mem ?_ (List.Pairwise.filter _ List.pairwise_lt_range))
 intro a b ha hb hab e
 obtain⟨c,c1,c2,c3⟩:=hP a (by simpa using(List.mem_filter.1 ha).2)
 obtain⟨d,d1,d2,d3⟩:=hP b (by simpa using(List.mem_filter.1 hb).2)
 have:(H.getC a).born=(H.getC b).born:=congrArg Prod.fst e
 rw[getC_nat c1,getC_nat d1]at this
 exact h.r2.born a b c d c1 d1 hab c2 d2 this
theorem posL_sum{H K:Heap}(h:Sound H)(k:Sound K){P P':Nat→Prop}{Q Q':Int→Prop}(hP:∀i,P i→∃c,H.cells[i]?=some c∧c.state=1∧¬Doomed H i)(hQ:∀(i:Nat) c,H.cells[i]?=some c→c.state=1→¬Doomed H i→(P i↔Q c.born))
 (hP':∀i,P' i→∃c,K.cells[i]?=some c∧c.state=1∧¬Doomed K i) (hQ':∀(i:Nat) c,K.cells[i]?=some c→c.state=1→¬Doomed K i→(P' i↔Q' c.born)) (e:∀b n,(Node K b n∧Q' b)↔(Node H b n∧Q b)):((posL K P').map Prod.snd).sum=((posL H P).map Prod.snd).sum:=by
 have mem:∀x,x∈posL K P'↔x∈posL H P:=fun x=>by
  rw[posL_mem h hP hQ,posL_mem k hP' hQ']
  constructor
  ·rintro⟨n,a,b,c⟩;have:=(e x.1 n).1 ⟨a,b⟩;exact⟨n,this.1,this.2,c⟩
  ·rintro⟨n,a,b,c⟩;have:=(e x.1 n).2 ⟨a,b⟩;exact⟨n,this.1,this.2,c⟩
 have nn:∀x,x∈posL H P→0≤x.2:=fun x hx=>by
  obtain⟨n,_,_,c⟩:=(posL_mem h hP hQ x).1 hx
  omega
 have a:=sum_sub _ _ (posL_nodup k hP') (fun x hx=>(mem x).1 hx) nn
 have b:=sum_sub _ _ (posL_nodup h hP) (fun x hx=>(mem x).2 hx) (fun x hx=>nn x ((mem x).1 hx))
 omega
noncomputable def liveN(H:Heap):Int:=sumT H (reachL H) H.cells.length
theorem reachL_iff{H:Heap}{i:Nat}(hi:i<H.cells.length):(reachL H)[i]?=some true↔Reached H i:=by
 unfold reachL
 rw[List.getElem?_map,List.getElem?_range hi]
 simp
theorem live_eq{H K:Heap}(h:Sound H)(k:Sound K)(e:∀b n,Vis K b n↔Vis H b n):liveN K=liveN H:=by
 unfold liveN
 rw[sumT_posL (P:=Reached K) (fun i hi=>reachL_iff hi),sumT_posL (P:=Reached H) (fun i hi=>reachL_iff hi)]
 exact posL_sum h k (fun i hi=>reached_ok h.r2 h.r4 hi) (fun i c c1 c2 _=>reach_iff h c1 c2) (fun i hi=>reached_ok k.r2 k.r4 hi) (fun i c c1 c2 _=>reach_iff k c1 c2) e
theorem iter_vis:∀(k:Nat) {H:Heap},Sound H→∀b n,Vis (iterU k H) b n↔Vis H b n
 |0,H,_,b,n=>Iff.rfl
 |k+1,H,h,b,n=>(iter_vis k (unit_sound h) b n).trans (unit_vis h)
theorem reach_same{H K:Heap}(hr:K.regs.map K.aw=H.regs.map H.aw)(hn:∀b n,Node K b n↔Node H b n){b:Int}:ReachB K b↔ReachB H b:=by
 constructor
 ·intro x
  induction x with
  |reg h1 h2=>exact .reg (by rw[←hr];exact h1) h2
  |root h1 h2=>exact .root ((hn _ _).1 h1) h2
  |pair _ h2 h3 h4 h5 ih=>exact .pair ih ((hn _ _).1 h2) h3 h4 h5
 ·intro x
  induction x with
  |reg h1 h2=>exact .reg (by rw[hr];exact h1) h2
  |root h1 h2=>exact .root ((hn _ _).2 h1) h2
  |pair _ h2 h3 h4 h5 ih=>exact .pair ih ((hn _ _).2 h2) h3 h4 h5
theorem begin_vis{H:Heap}(hp:H.phase=0)(b:Int)(n:Nd):Vis (H.enterH 1) b n↔Vis H b n:=by
 have i:Iso H (H.enterH 1):=enter_iso fun j=>not_doom (by omega) j
 have k:∀b n,Node H b n→Node (H.enterH 1) b n:=enter_back (by omega)
 have hn:∀b n,Node (H.enterH 1) b n↔Node H b n:=fun b n=>⟨i.node b n,k b n⟩
 unfold Vis
 rw[hn,reach_same i.regs hn]
theorem round_vis{H:Heap}(h:Sound H)(b:Int)(n:Nd):Vis H.roundH b n↔Vis H b n:=by
 obtain⟨a,e⟩:=outH_ok h
 exact((iter_vis _ (begin_sound a e) b n).trans (begin_vis e b n)).trans (iter_vis _ h b n)
def AllR(H:Heap):Prop:=∀b n,Node H b n→ReachB H b
theorem allR_unit{H:Heap}(h:Sound H)(ha:AllR H):AllR H.unitH:=fun b n hn=>(unit_reach h).2 (ha b n ((unit_iso h).node b n hn))
structure Inv (H:Heap):Prop where
 col:Marking H→∀(i:Nat) c,H.cells[i]?=some c→c.color≠0→Reached H i
 sw:H.phase=3→∀(i:Nat) c,H.cells[i]?=some c→c.state=1→((i:Int)<H.hand∨c.color≠0)→Reached H i
 all:4≤H.phase∨H.phase=0→AllR H
 mv:H.phase=4→∀(i j:Nat) c d,H.cells[i]?=some c→H.cells[j]?=some d→c.state=2→d.state=1→j<i
 cp:H.phase=5∨H.phase=6→∃m:Nat,(∀(i:Nat) c,H.cells[i]?=some c→(c.state=1↔i<m))∧(H.phase=6→(H.cells.length:Int)≤max H.hand m)
 us:H.phase=0→∀(i:Nat) c,H.cells[i]?=some c→c.state=1
theorem inv_begin{H:Heap}(h:Sound H)(hp:H.phase=0):Inv (H.enterH 1):=by
 obtain⟨g1,g2⟩:=h.r5.else_ (not_mark (by omega))
 have e:(H.enterH 1).phase=1:=rfl
 refine⟨fun _ i c hc hn=>?_,fun x=>by omega,fun x=>by omega,fun x=>by omega,fun x=>by omega,fun x=>by omega⟩
 exfalso
 have:=(g2 i c hc).2
 have h1:=(g2 i c hc).1
 rcases h.r2.each i c hc with x|x|x
 ·exact hn x.2.1.2.2.2.2.1
 ·exact hn x.2.1.2.2.2.2.1
 ·have hb:=x.2.2.2.2.2.1
  have:c.color=2:=by omega
  have:=(g2 i c hc).2 this
  omega
theorem shadeH_col{H:Heap}{i:Nat}{j:Int}(hi:i<H.cells.length)(hc:((H.shadeH i).getC j).color≠0):(H.getC j).color≠0∨j.toNat=i:=by
 unfold Heap.shadeH at hc
 split at hc
 ·have e:(H.gray1 i (H.getC i)).getC j=if j.toNat=i then(H.getC i).col 1 else H.getC j:=by rw[getC_L,getC_L];exact getL_set hi
  rw[e]at hc
  split at hc
  ·right;assumption
  ·left;exact hc
 ·exact .inl hc
theorem shadeW_col{H:Heap}{w:Word}{j:Int}(hf:Formed H w)(hc:((H.shadeW w).getC j).color≠0):(H.getC j).color≠0∨(w.kind=2∧j.toNat=w.at_.toNat):=by
 unfold Heap.shadeW at hc
 split at hc
 ·rename_i hk
  have:=hf.at hk
  rcases shadeH_col (by omega) hc with x|x
  ·exact .inl x
  ·exact .inr ⟨hk,x⟩
 ·exact .inl hc
theorem shadeL_col:∀(ws:List Word) (H:Heap) {j:Int},(∀w,w∈ws→Formed H w)→((H.shadeL ws).getC j).color≠0→(H.getC j).color≠0∨∃w,w∈ws∧w.kind=2∧j.toNat=w.at_.toNat
 |[],H,j,_,hc=>.inl hc
 |w::r,H,j,h,hc=>by
  have a:=hue_shadeW (h w (by simp))
  rcases shadeL_col r (H.shadeW w) (fun v hv=>formed_len a.len (h v (by simp[hv]))) hc with x|⟨v,hv,x⟩
  ·rcases shadeW_col (h w (by simp)) x with y|y
   ·exact .inl y
   ·exact .inr ⟨w,by simp,y⟩
  ·exact .inr ⟨v,by simp[hv],x⟩
theorem reach_unit{H:Heap}(h:Sound H){i j:Nat}{c d:Cell}(hc:H.cells[i]?=some c)(hd:H.unitH.cells[j]?=some d)(sc:c.state=1)(sd:d.state=1)(e:d.born=c.born)(hr:Reached H i):Reached H.unitH j:=by
 rw[reach_iff (unit_sound h) hd sd,e,unit_reach h,←reach_iff h hc sc];exact hr
theorem tgt_used{H:Heap}{w:Word}(hk:w.kind=2)(h:(H.getC w.at_).state=1):H.tgt w=some w.at_.toNat:=by
 unfold Heap.tgt
 rw[lead_id (fun _=>h),if_pos hk]
theorem inv_unit{H:Heap}(h:Sound H)(v:Inv H)(hp:H.phase≠0):Inv H.unitH:=by
 have hs:=unit_sound h
 have hph:=h.r1.phase
 have h0:=h.r1.hand
 --cells that differ in colour alone
 have hue:∀K:Heap,K=H.unitH→Hue H K→(∀(i:Nat),i<H.cells.length→(H.getC i).state=1→(K.getC i).color≠0→Reached H i)→∀(i:Nat) c,K.cells[i]?=some c→c.color≠0→Reached K i:=fun K hK hu hx i c hc hcl=>by
  have hi:=(List.getElem?_eq_some_iff.1 hc).1
  have e:=getC_nat hc
  have e2:=hu.cell i
  have hsK:Sound K:=by rw[hK];exact hs
  have s1:c.state=1:=by
   by_cases x:c.state=1
   ·exact x
   ·exact absurd (hsK.r2.bare hc x).2.2.2.2.1 hcl
  have s2:(H.getC i).state=1:=by rw[←e,e2]at s1;exact s1
  rw[hu.len]at hi
  have hr:=hx i hi s2 (by rw[e];exact hcl)
  have:=reach_unit h (get_at hi) (by rw[←hK];exact hc) s2 s1 (by rw[←e,e2];rfl) hr
  rw[←hK]at this;exact this
 rcases(by omega:H.phase=1∨H.phase=2∨H.phase=3∨H.phase=4∨H.phase=5∨H.phase=6)with p|p|p|p|p|p
 ·--roots
  have hcol:=v.col (.inl p)
  have eU:H.unitH=H.rootsU:=by unfold Heap.unitH;rw[if_pos p]
  have hphase:H.unitH.phase=1∨H.unitH.phase=2:=by
   rw[eU];unfold Heap.rootsU
   split
   ·exact .inr rfl
   ·left
    split
    ·show(H.shadeH H.hand.toNat).phase=1
     have:(H.shadeH H.hand.toNat).phase=H.phase:=by unfold Heap.shadeH;split<;>rfl
     omega
    ·exact p
  have main:∀(i:Nat) c,H.unitH.cells[i]?=some c→c.color≠0→Reached H.unitH i:=by
   have old:∀(i:Nat),i<H.cells.length→(H.getC i).color≠0→Reached H i:=fun i hi hc=>hcol i _ (get_at hi) hc
   by_cases hh:H.hand=H.cells.length
   ·have e:H.unitH=H.enterH 2:=by rw[eU];unfold Heap.rootsU;rw[if_pos hh]
    exact hue _ rfl (by rw[e];exact hue_same rfl rfl rfl rfl rfl rfl rfl) (fun i hi _ hc=>old i hi (by rw[e]at hc;exact hc))
   ·by_cases hr:Root (H.getC H.hand)
    ·have e:H.unitH={H.shadeH H.hand.toNat with hand:=H.hand+1}:=by rw[eU];unfold Heap.rootsU;rw[if_neg hh,if_pos hr]
     refine hue _ rfl (by rw[e];exact(hue_shadeH (by omega)).trans (hue_same rfl rfl rfl rfl rfl rfl rfl)) (fun i hi _ hc=>?_)
     rw[e]at hc
     have hc:((H.shadeH H.hand.toNat).getC i).color≠0:=hc
     rcases shadeH_col (by omega) hc with x|x
     ·exact old i hi x
     ·have e2:H.getC H.hand=H.getC i:=by congr 1;omega
      exact .root (get_at hi) (by rw[←e2];exact hr)
    ·have e:H.unitH={H with hand:=H.hand+1}:=by rw[eU];unfold Heap.rootsU;rw[if_neg hh,if_neg hr]
     exact hue _ rfl (by rw[e];exact hue_same rfl rfl rfl rfl rfl rfl rfl) (fun i hi _ hc=>old i hi (by rw[e]at hc;exact hc))
  exact⟨fun _=>main,fun x=>by omega,fun x=>by omega,fun x=>by omega,fun x=>by omega,fun x=>by omega⟩
 ·--marking
  have hcol:=v.col (.inr p)
  have eU:H.unitH=H.markU:=by unfold Heap.unitH;rw[if_neg (by omega),if_pos p]
  have old:∀(i:Nat),i<H.cells.length→(H.getC i).color≠0→Reached H i:=fun i hi hc=>hcol i _ (get_at hi) hc
  have fin:H.unitH.phase=2→(∀(i:Nat) c,H.unitH.cells[i]?=some c→c.color≠0→Reached H.unitH i)→Inv H.unitH:=fun e m=>
   ⟨fun _=>m,fun x=>by omega,fun x=>by omega,fun x=>by omega,fun x=>by omega,fun x=>by omega⟩
  cases hg:H.gray with
  |nil=>
   by_cases hx:∃w,w∈H.regs∧White H w
   ·have e:H.unitH=H.shadeL H.regs:=by rw[eU];unfold Heap.markU;rw[hg];simp only;rw[if_pos hx]
    have hr:=fun w hw=>reg_used h.r4 (w:=w) hw
    have hsh:=(shadeL_ok H.regs H (fun w hw=>⟨(hr w hw).1,fun hk=>((hr w hw).2 hk).1⟩)).1
    refine fin (by rw[e,hsh.phase];exact p) (hue _ rfl (by rw[e];exact hue_shadeL H.regs H (fun w hw=>(hr w hw).1)) (fun i hi s hc=>?_))
    rw[e]at hc
    rcases shadeL_col H.regs H (fun w hw=>(hr w hw).1) hc with x|⟨w,hw,hk,x⟩
    ·exact old i hi x
    ·have:=tgt_used hk ((hr w hw).2 hk).1
     refine .reg hw (by rw[this];congr 1;omega)
   ·have e:H.unitH=H.enterH 3:=by rw[eU];unfold Heap.markU;rw[hg];simp only;rw[if_neg hx]
    have m:=hue _ rfl (by rw[e];exact hue_same rfl rfl rfl rfl rfl rfl rfl) (fun i hi _ hc=>old i hi (by rw[e]at hc;exact hc))
    have ep:H.unitH.phase=3:=by rw[e];rfl
    have eh:H.unitH.hand=0:=by rw[e];rfl
    refine⟨fun x=>by rcases x with x|x<;>omega,fun _ i c hc s x=>?_,fun x=>by omega,fun x=>by omega,fun x=>by omega,fun x=>by omega⟩
    rcases x with x|x
    ·omega
    ·exact m i c hc x
  |cons g r=>
   obtain⟨g1,g2,g3⟩:=h.r5.mark (.inr p)
   obtain⟨b0,b1,b2,b3⟩:=g2 g (by rw[hg];simp)
   have hrg:Reached H g.toNat:=old g.toNat (by omega) (by rw[show((g.toNat:Nat):Int)=g by omega];omega)
   cases hs':(H.getC g).pairs[H.sub.toNat]? with
   |none=>
    have e:H.unitH=H.black g r:=by rw[eU];unfold Heap.markU;rw[hg];simp only;rw[hs']
    have gC:∀j:Int,(H.black g r).getC j=if j.toNat=g.toNat then(H.getC g).col 2 else H.getC j:=fun j=>by
     rw[getC_L,getC_L];exact getL_set (by omega)
    refine fin (by rw[e];exact p) (hue _ rfl ?_ (fun i hi s hc=>?_))
    ·rw[e]
     refine hue_set (i:=g.toNat) (k:=2) (by omega) ?_ rfl rfl rfl rfl rfl rfl
     rw[show((g.toNat:Nat):Int)=g by omega];rfl
    ·rw[e,gC]at hc
     split at hc
     ·rename_i e2
      rw[show i=g.toNat by omega];exact hrg
     ·exact old i hi hc
   |some q=>
    have e:H.unitH={(H.shadeW q.key).shadeW q.val with sub:=H.sub+1}:=by rw[eU];unfold Heap.markU;rw[hg];simp only;rw[hs']
    obtain⟨⟨k1,k2⟩,v1,v2⟩:=markP h p hg hs'
    have a:=hue_shadeW k1
    have b:=hue_shadeW (H:=H.shadeW q.key) (w:=q.val) (formed_len a.len v1)
    have hsh:=(markP2 h p hg hs').1
    have hcg:H.cells[g.toNat]?=some (H.getC g):=by
     have:=get_at (H:=H) (i:=g.toNat) (by omega)
     rw[show((g.toNat:Nat):Int)=g by omega]at this;exact this
    have hq:q∈(H.getC g).pairs:=List.mem_of_getElem? hs'
    refine fin (by rw[e];show((H.shadeW q.key).shadeW q.val).phase=2;rw[hsh.phase];exact p) (hue _ rfl (by rw[e];exact Hue.trans (a.trans b) (hue_same rfl rfl rfl rfl rfl rfl rfl)) (fun i hi s hc=>?_))
    rw[e]at hc
    have hc:(((H.shadeW q.key).shadeW q.val).getC i).color≠0:=hc
    rcases shadeW_col (H:=H.shadeW q.key) (formed_len a.len v1) hc with x|⟨hk,x⟩
    ·rcases shadeW_col k1 x with y|⟨hk,y⟩
     ·exact old i hi y
     ·refine .pair hrg hcg hq (.inl rfl) (by rw[tgt_used hk (k2 hk)];congr 1;omega)
    ·refine .pair hrg hcg hq (.inr rfl) (by rw[tgt_used hk (v2 hk)];congr 1;omega)
 ·--sweeping
  have hsw:=v.sw p
  have eU:H.unitH=H.sweepU:=by unfold Heap.unitH;rw[if_neg (by omega),if_neg (by omega),if_pos p]
  by_cases hh:H.hand=H.cells.length
  ·have e:H.unitH=H.enterH 4:=by rw[eU];unfold Heap.sweepU;rw[if_pos hh]
   have ep:H.unitH.phase=4:=by rw[e];rfl
   have ec:H.unitH.cells=H.cells:=by rw[e];rfl
   refine⟨fun x=>by rcases x with x|x<;>omega,fun x=>by omega,fun _ b n hn=>?_,fun _ i j c d hc hd s1 s2=>?_,fun x=>by omega,fun x=>by omega⟩
   ·rw[unit_reach h]
    obtain⟨i,c,a1,a2,a3,a4,a5⟩:=hn
    rw[ec]at a1
    have hi:=(List.getElem?_eq_some_iff.1 a1).1
    rw[←a4,←reach_iff h a1 a2]
    exact hsw i c a1 a2 (.inl (by omega))
   ·exfalso
    rw[ec]at hc
    rcases h.r2.each i c hc with x|x|x
    ·have:=x.1;omega
    ·have:=x.2.2.1;omega
    ·have:=x.1;omega
  ·have hlt:H.hand.toNat<H.cells.length:=by omega
   have key:∀a:Cell,H.unitH.cells=H.cells.set H.hand.toNat a→H.unitH.phase=3→H.unitH.hand=H.hand+1→(a.state=1→(H.getC H.hand).state=1∧(H.getC H.hand).color≠0∧a.born=(H.getC H.hand).born)→Inv H.unitH:=fun a ec ep eh ha=>by
    refine⟨fun x=>by rcases x with x|x<;>omega,fun _ i c hc s x=>?_,fun x=>by omega,fun x=>by omega,fun x=>by omega,fun x=>by omega⟩
    have hc':=hc
    rw[ec]at hc'
    rcases set_gt hc' with⟨e,rfl,_⟩|⟨e,hc'⟩
    ·obtain⟨a1,a2,a3⟩:=ha s
     have hg:=get_at hlt
     rw[show((H.hand.toNat:Nat):Int)=H.hand by omega]at hg
     rw[e]at hc⊢
     exact reach_unit h hg hc a1 s a3 (hsw _ _ hg a1 (.inr a2))
    ·exact reach_unit h hc' hc s s rfl (hsw i c hc' s (by rcases x with x|x;exact .inl (by omega);exact .inr x))
   by_cases hc0:(H.getC H.hand).state=1∧(H.getC H.hand).color=0
   ·have e:H.unitH={H with used:=H.used-(1+(H.getC H.hand).pairs.length),cells:=H.cells.set H.hand.toNat Cell.zero,hand:=H.hand+1}:=by rw[eU];unfold Heap.sweepU;rw[if_neg hh,if_pos hc0]
    exact key Cell.zero (by rw[e]) (by rw[e];exact p) (by rw[e]) (fun x=>by simp[Cell.zero]at x)
   ·have e:H.unitH={H with cells:=H.cells.set H.hand.toNat ((H.getC H.hand).col 0),hand:=H.hand+1}:=by rw[eU];unfold Heap.sweepU;rw[if_neg hh,if_neg hc0]
    exact key ((H.getC H.hand).col 0) (by rw[e]) (by rw[e];exact p) (by rw[e]) (fun x=>⟨x,fun y=>hc0 ⟨x,y⟩,rfl⟩)
 ·--moving
  have hal:=allR_unit h (v.all (.inl (by omega)))
  have hmv:=v.mv p
  have eU:H.unitH=H.moveU:=by unfold Heap.unitH;rw[if_neg (by omega),if_neg (by omega),if_neg (by omega),if_pos p]
  obtain⟨a1,a2,a3,a4⟩:=frG_ok H H.cells.length
  obtain⟨b1,b2,b3,b4⟩:=luG_ok H H.cells.length
  by_cases hlt:luG H H.cells.length≤frG H H.cells.length
  ·have e:H.unitH=H.enterH 5:=by rw[eU];unfold Heap.moveU;rw[if_pos hlt]
   have ep:H.unitH.phase=5:=by rw[e];rfl
   have ec:H.unitH.cells=H.cells:=by rw[e];rfl
   refine⟨fun x=>by rcases x with x|x<;>omega,fun x=>by omega,fun _=>hal,fun x=>by omega,fun _=>⟨(luG H H.cells.length+1).toNat,fun i c hc=>?_,fun x=>by omega⟩,fun x=>by omega⟩
   rw[ec]at hc
   have hi:=(List.getElem?_eq_some_iff.1 hc).1
   have hg:=getC_nat hc
   generalize luG H H.cells.length=u at*
   generalize frG H H.cells.length=f at*
   constructor
   ·intro s
    rcases Int.lt_or_le u i with x|x
    ·have:=b4 i hi x
     rw[hg]at this
     exact absurd s this
    ·omega
   ·intro x
    have hu1:=b3 (by omega)
    rcases h.r2.each i c hc with y|y|y
    ·exfalso
     by_cases z:(i:Int)<f
     ·exact a4 i hi z (by rw[hg];exact y.1)
     ·have:(i:Int)=u:=by omega
      rw[←this,hg]at hu1
      have:=y.1;omega
    ·exfalso
     have hgu:=get_at (H:=H) (i:=u.toNat) (by omega)
     rw[show((u.toNat:Nat):Int)=u by omega]at hgu
     have:=hmv i u.toNat c _ hc hgu y.1 hu1
     omega
    ·exact y.1
  ·have e:H.unitH=H.moved (frG H H.cells.length) (luG H H.cells.length):=by rw[eU];unfold Heap.moveU;rw[if_neg hlt]
   have ep:H.unitH.phase=4:=by rw[e];exact p
   have ec:H.unitH.cells=(H.cells.set (frG H H.cells.length).toNat (H.getC (luG H H.cells.length))).set (luG H H.cells.length).toNat (Cell.gone (frG H H.cells.length)):=by rw[e];rfl
   refine⟨fun x=>by rcases x with x|x<;>omega,fun x=>by omega,fun _=>hal,fun _ i j c d hc hd s1 s2=>?_,fun x=>by omega,fun x=>by omega⟩
   generalize luG H H.cells.length=u at*
   generalize frG H H.cells.length=f at*
   have hu1:=b3 (by omega)
   have hgu:=get_at (H:=H) (i:=u.toNat) (by omega)
   rw[show((u.toNat:Nat):Int)=u by omega]at hgu
   rw[ec]at hc hd
   --the used cell lies below u
   have hj:(j:Int)<u:=by
    rcases set_gt hd with⟨_,rfl,_⟩|⟨x,hd⟩
    ·simp[Cell.gone]at s2
    ·rcases set_gt hd with⟨y,_,_⟩|⟨y,hd⟩
     ·omega
     ·have hjl:=(List.getElem?_eq_some_iff.1 hd).1
      rcases Int.lt_or_le u j with z|z
      ·have:=b4 j hjl z
       rw[getC_nat hd]at this
       exact absurd s2 this
      ·omega
   rcases set_gt hc with⟨x,_,_⟩|⟨x,hc⟩
   ·omega
   ·rcases set_gt hc with⟨y,rfl,_⟩|⟨y,hc⟩
    ·omega
    ·have:=hmv i u.toNat c _ hc hgu s1 hu1
     omega
 ·--mending
  have hal:=allR_unit h (v.all (.inl (by omega)))
  obtain⟨m,hm,_⟩:=v.cp (.inl p)
  have eU:H.unitH=H.mendU:=by unfold Heap.unitH;rw[if_neg (by omega),if_neg (by omega),if_neg (by omega),if_neg (by omega),if_pos p]
  by_cases hh:H.hand=H.cells.length
  ·have e:H.unitH=H.enterH 6:=by rw[eU];unfold Heap.mendU;rw[if_pos hh]
   have ep:H.unitH.phase=6:=by rw[e];rfl
   refine⟨fun x=>by rcases x with x|x<;>omega,fun x=>by omega,fun _=>hal,fun x=>by omega,fun _=>⟨m,by rw[e];exact hm,fun _=>?_⟩,fun x=>by omega⟩
   have eh:H.unitH.hand=H.cells.length:=by rw[e];rfl
   have el:H.unitH.cells.length=H.cells.length:=by rw[e];rfl
   omega
  ·cases hs':(H.getC H.hand).pairs[H.sub.toNat]? with
   |none=>
    have e:H.unitH={H with hand:=H.hand+1,sub:=0}:=by rw[eU];unfold Heap.mendU;rw[if_neg hh,hs']
    have ep:H.unitH.phase=5:=by rw[e];exact p
    exact⟨fun x=>by rcases x with x|x<;>omega,fun x=>by omega,fun _=>hal,fun x=>by omega,fun _=>⟨m,by rw[e];exact hm,fun x=>by omega⟩,fun x=>by omega⟩
   |some q=>
    have e:H.unitH={H with cells:=H.cells.set H.hand.toNat {H.getC H.hand with pairs:=(H.getC H.hand).pairs.set H.sub.toNat ⟨H.lead q.key,H.lead q.val⟩},sub:=H.sub+1}:=by rw[eU];unfold Heap.mendU;rw[if_neg hh,hs']
    have ep:H.unitH.phase=5:=by rw[e];exact p
    refine⟨fun x=>by rcases x with x|x<;>omega,fun x=>by omega,fun _=>hal,fun x=>by omega,fun _=>⟨m,fun i c hc=>?_,fun x=>by omega⟩,fun x=>by omega⟩
    rw[e]at hc
    rcases set_gt hc with⟨x,rfl,_⟩|⟨x,hc⟩
    ·have hg:=get_at (H:=H) (i:=H.hand.toNat) (by omega)
     rw[show((H.hand.toNat:Nat):Int)=H.hand by omega]at hg
     rw[x]
     show(H.getC H.hand).state=1↔_
     exact hm _ _ hg
    ·exact hm i c hc
 ·--closing
  have hal:=allR_unit h (v.all (.inl (by omega)))
  obtain⟨m,hm,hm6⟩:=v.cp (.inr p)
  have hm6:=hm6 p
  have eU:H.unitH=H.closeU:=by unfold Heap.unitH;rw[if_neg (by omega),if_neg (by omega),if_neg (by omega),if_neg (by omega),if_neg (by omega),if_pos p]
  by_cases hh:H.hand=0
  ·have e:H.unitH={H.enterH 0 with rounds:=if H.rounds<1000000000 then H.rounds+1 else H.rounds}:=by rw[eU];unfold Heap.closeU;rw[if_pos hh]
   have ep:H.unitH.phase=0:=by rw[e];rfl
   refine⟨fun x=>by rcases x with x|x<;>omega,fun x=>by omega,fun _=>hal,fun x=>by omega,fun x=>by omega,fun _ i c hc=>?_⟩
   rw[e]at hc
   have hc:H.cells[i]?=some c:=hc
   have hi:=(List.getElem?_eq_some_iff.1 hc).1
   exact(hm i c hc).2 (by omega)
  ·have hl:H.closeA.length=H.cells.length:=by unfold Heap.closeA;split<;>simp
   have ec:H.unitH.cells=(if H.hand=H.cells.length∧(getL H.closeA (H.hand-1)).state=0 then H.closeA.take (H.hand-1).toNat else H.closeA):=by rw[eU];unfold Heap.closeU;rw[if_neg hh]
   have ep:H.unitH.phase=6:=by rw[eU];unfold Heap.closeU;rw[if_neg hh];exact p
   have eh:H.unitH.hand=H.hand-1:=by rw[eU];unfold Heap.closeU;rw[if_neg hh]
   have hA:∀(i:Nat) c,H.closeA[i]?=some c→(c.state=1↔i<m):=fun i c hc=>by
    unfold Heap.closeA at hc
    split at hc
    ·rename_i e2
     rcases set_gt hc with⟨x,rfl,_⟩|⟨x,hc⟩
     ·have hg:=get_at (H:=H) (i:=(H.hand-1).toNat) (by omega)
      rw[show(((H.hand-1).toNat:Nat):Int)=H.hand-1 by omega]at hg
      have:=hm _ _ hg
      rw[x]
      constructor
      ·intro y;simp[Cell.zero]at y
      ·intro y;have:=this.2 y;omega
     ·exact hm i c hc
    ·exact hm i c hc
   refine⟨fun x=>by rcases x with x|x<;>omega,fun x=>by omega,fun _=>hal,fun x=>by omega,fun _=>⟨m,fun i c hc=>?_,fun _=>?_⟩,fun x=>by omega⟩
   ·rw[ec]at hc
    split at hc
    ·rw[List.getElem?_take]at hc
     split at hc
     ·exact hA i c hc
     ·cases hc
    ·exact hA i c hc
   ·rw[ec,eh]
    split
    ·rw[List.length_take];omega
    ·rename_i e2
     rw[hl]
     by_cases x:H.hand=H.cells.length
     ·--the last cell stays:it is used
      have hg:=getL_some (cs:=H.closeA) (j:=H.hand-1) (by omega) (by omega)
      have:=hA _ _ hg
      have hst:(getL H.closeA (H.hand-1)).state=1:=by
       have hz:(getL H.closeA (H.hand-1)).state≠0:=fun y=>e2 ⟨x,y⟩
       have hg2:=get_at (H:=H) (i:=(H.hand-1).toNat) (by omega)
       rw[show(((H.hand-1).toNat:Nat):Int)=H.hand-1 by omega]at hg2
       unfold Heap.closeA at hz⊢
       split
       ·rename_i y
        rw[if_pos y,getL_set (by omega),if_pos rfl]at hz
        exact absurd rfl hz
       ·rename_i y
        rw[if_neg y]at hz
        rw[getL_at hg2 rfl]at hz⊢
        rcases h.r2.each _ _ hg2 with z|z|z
        ·exact absurd z.1 hz
        ·exact absurd z.1 y
        ·exact z.1
      have:=this.1 hst
      omega
     ·omega
theorem inv_iter:∀(k:Nat) {H:Heap},Sound H→Inv H→(∀j,j<k→(iterU j H).phase≠0)→Inv (iterU k H)
 |0,_,_,v,_=>v
 |k+1,H,h,v,hp=>inv_iter k (unit_sound h) (inv_unit h v (hp 0 (by omega))) (fun j hj=>hp (j+1) (by omega))
theorem clean{H:Heap}(h:Sound H):(∀(i:Nat) c,H.roundH.cells[i]?=some c→c.state=1∧Reached H.roundH i)∧H.roundH.used=liveN H:=by
 obtain⟨a,e⟩:=outH_ok h
 have hb:=begin_sound a e
 obtain⟨⟨o1,o2⟩,_⟩:=outN_ok hb
 have v:Inv H.roundH:=inv_iter _ hb (inv_begin a e) o2
 obtain⟨s,p⟩:=roundH_ok h
 have main:∀(i:Nat) c,H.roundH.cells[i]?=some c→c.state=1∧Reached H.roundH i:=fun i c hc=>by
  have s1:=v.us p i c hc
  exact⟨s1,(reach_iff s hc s1).2 (v.all (.inr p) _ _ (node_at hc s1 (not_doom (by omega) i)))⟩
 refine⟨main,?_⟩
 rw[←live_eq h s (fun b n=>round_vis h b n),←s.r3.1]
 have key:∀k:Nat,k≤H.roundH.cells.length→sumT H.roundH (reachL H.roundH) k=unitsN (H.roundH.cells.take k):=by
  intro k
  induction k with
  |zero=>intro _;simp[sumT,unitsN]
  |succ k ih=>
   intro hk
   have ih:=ih (by omega)
   have hc:=get_at (H:=H.roundH) (i:=k) (by omega)
   have hr:=(main k _ hc).2
   rw[List.take_add_one,hc,unitsN_append,←ih]
   simp only[sumT]
   rw[if_pos ((reachL_iff (by omega)).2 hr)]
   simp[unitsN]
 unfold liveN
 rw[key _ (Nat.le_refl _),List.take_length]
theorem aw_reg{H:Heap}(h:R4 H){w:Word}(hw:w∈H.regs):H.aw w=if w.kind=2 then⟨2,0,(H.getC w.at_).born⟩else w:=by
 unfold Heap.aw
 by_cases hk:w.kind=2
 ·rw[if_pos hk,if_pos hk,lead_id (fun hk=>((reg_used h hw).2 hk).1)]
 ·rw[if_neg hk,if_neg hk]
structure FillI (H:Heap) (s:Nat) (B:Nat→Option Int):Prop where
 ok:Sound H
 per:H.per=0
 regs:∀k,k<16→(H.regs.map H.aw)[k]?=some (match B k with|some b=>⟨2,0,b⟩|none=>⟨0,0,0⟩)
 far:∀k,5≤k→B k=none
 inj:∀j k b,B j=some b→B k=some b→j=k
 nod:∀(i:Nat) c,H.cells[i]?=some c→c.state=1→¬Doomed H i→c.last=0∧c.pairs=List.replicate (s-1) Pair.no
def heldS(B:Nat→Option Int)(s:Nat):Int:=(if(B 0).isSome then(s:Int)else 0)+(if(B 1).isSome then(s:Int)else 0)+(if(B 2).isSome then(s:Int)else 0)+(if(B 3).isSome then(s:Int)else 0)+(if(B 4).isSome then(s:Int)else 0)
theorem ap_no(H:Heap):H.ap Pair.no=Pair.no:=by
 unfold Heap.ap Heap.aw Pair.no
 rw[if_neg (by show ¬(0:Int)=2;omega)]
section
variable {H:Heap} {s:Nat} {B:Nat→Option Int}
theorem FillI.node(h:FillI H s B){b:Int}{n:Nd}(hn:Node H b n):n.last=0∧n.pairs=List.replicate (s-1) Pair.no:=by
 obtain⟨i,c,c1,c2,c3,c4,rfl⟩:=hn
 obtain⟨a,e⟩:=h.nod i c c1 c2 c3
 refine⟨a,?_⟩
 show c.pairs.map H.ap=_
 rw[e,List.map_replicate,ap_no]
theorem FillI.word(h:FillI H s B){k:Nat}{b:Int}(hk:k<16)(hb:B k=some b):∃(w:Word) (i:Nat) (c:Cell),H.regs[k]?=some w∧w.kind=2∧w.at_=i∧H.cells[i]?=some c∧c.state=1∧¬Doomed H i∧c.born=b:=by
 have hr:=h.regs k hk
 rw[hb,List.getElem?_map]at hr
 cases hw:H.regs[k]? with
 |none=>rw[hw]at hr;cases hr
 |some w=>
  rw[hw]at hr
  simp only[Option.map_some,Option.some.injEq]at hr
  have hm:=List.mem_of_getElem? hw
  rw[aw_reg h.ok.r4 hm]at hr
  obtain⟨u1,u2⟩:=reg_used h.ok.r4 hm
  by_cases hk2:w.kind=2
  ·rw[if_pos hk2]at hr
   obtain⟨v1,v2⟩:=u2 hk2
   have hat:=u1.at hk2
   obtain⟨i,hi⟩:=Int.eq_ofNat_of_zero_le hat.1
   rw[hi]at hr v1 v2 hat
   have hc:=get_at (H:=H) (i:=i) (by omega)
   refine⟨w,i,_,rfl,hk2,hi,hc,v1,v2,?_⟩
   simp only[Word.mk.injEq,true_and]at hr
   exact hr
  ·rw[if_neg hk2]at hr
   rw[hr]at hk2
   exact absurd rfl hk2
theorem FillI.reach(h:FillI H s B){b:Int}:ReachB H b↔∃k,k<5∧B k=some b:=by
 constructor
 ·intro x
  induction x with
  |reg h1 h2=>
   obtain⟨k,hk⟩:=List.getElem?_of_mem h1
   have hlt:k<16:=by
    have:=(List.getElem?_eq_some_iff.1 hk).1
    rw[List.length_map,h.ok.r1.regs]at this;exact this
   have hr:=h.regs k hlt
   rw[hk]at hr
   cases hb:B k with
   |none=>
    rw[hb]at hr
    simp only[Option.some.injEq]at hr
    rw[hr]at h2
    exact absurd h2.1 (by show ¬(0:Int)=2;omega)
   |some d=>
    rw[hb]at hr
    simp only[Option.some.injEq]at hr
    rw[hr]at h2
    refine⟨k,?_,by rw[←h2.2];exact hb⟩
    rcases Nat.lt_or_ge k 5 with y|y
    ·exact y
    ·rw[h.far k y]at hb;cases hb
  |root h1 h2=>
   have:=(h.node h1).1
   omega
  |pair _ h2 h3 h4 h5 _=>
   rw[(h.node h2).2]at h3
   have:=List.eq_of_mem_replicate h3
   subst this
   rcases h4 with rfl|rfl<;>exact absurd h5.1 (by show ¬(0:Int)=2;omega)
 ·rintro⟨k,hk,hb⟩
  have hr:=h.regs k (by omega)
  rw[hb]at hr
  exact .reg (List.mem_of_getElem? hr) ⟨rfl,rfl⟩
theorem FillI.live(h:FillI H s B)(hs:1≤s):liveN H=heldS B s:=by
 unfold liveN
 rw[sumT_posL (P:=Reached H) (fun i hi=>reachL_iff hi)]
 have hP:∀i,Reached H i→∃c,H.cells[i]?=some c∧c.state=1∧¬Doomed H i:=fun i hi=>reached_ok h.ok.r2 h.ok.r4 hi
 have hQ:∀(i:Nat) c,H.cells[i]?=some c→c.state=1→¬Doomed H i→(Reached H i↔ReachB H c.born):=fun i c c1 c2 _=>reach_iff h.ok c1 c2
 generalize hu:((List.range 5).filterMap fun k=>(B k).map fun b=>(b,(s:Int)))=u
 have mem:∀x,x∈posL H (Reached H)↔x∈u:=fun x=>by
  rw[posL_mem h.ok hP hQ,←hu,List.mem_filterMap]
  constructor
  ·rintro⟨n,a,b,c⟩
   obtain⟨k,hk,hb⟩:=h.reach.1 b
   refine⟨k,List.mem_range.2 hk,?_⟩
   rw[hb,(h.node a).2,List.length_replicate]at*
   obtain⟨x1,x2⟩:=x
   simp only[Option.map_some,Option.some.injEq,Prod.mk.injEq,true_and]
   simp only at c
   omega
  ·rintro⟨k,hk,e⟩
   have hk:=List.mem_range.1 hk
   cases hb:B k with
   |none=>rw[hb]at e;cases e
   |some b=>
    rw[hb]at e
    simp only[Option.map_some,Option.some.injEq]at e
    subst e
    obtain⟨w,i,c,_,_,_,c1,c2,c3,c4⟩:=h.word (by omega) hb
    have nd:=node_at c1 c2 c3
    rw[c4]at nd
    refine⟨_,nd,h.reach.2 ⟨k,hk,hb⟩,?_⟩
    have:=(h.node nd).2
    simp only at this⊢
    rw[this,List.length_replicate]
    omega
 have nn:∀x,x∈u→0≤x.2:=fun x hx=>by
  obtain⟨n,_,_,c⟩:=(posL_mem h.ok hP hQ x).1 ((mem x).2 hx)
  omega
 have ud:u.Nodup:=by
  rw[←hu]
  unfold List.Nodup
  rw[List.pairwise_filterMap]
  refine List.Pairwise.imp ?_ (List.pairwise_lt_range (n:=5))
  intro j k hjk x hx y hy e
  cases hb:B j with
  |none=>rw[hb]at hx;cases hx
  |some b=>
   cases hd:B k with
   |none=>rw[hd]at hy;cases hy
   |some d=>
    rw[hb]at hx
    rw[hd]at hy
    simp only[Option.map_some,Option.some.injEq]at hx hy
    rw[←hx,←hy]at e
    have:b=d:=congrArg Prod.fst e
    subst this
    have:=h.inj j k b hb hd
    omega
 have a:=sum_sub _ _ (posL_nodup h.ok hP) (fun x hx=>(mem x).1 hx) nn
 have b:=sum_sub _ _ ud (fun x hx=>(mem x).2 hx) (fun x hx=>nn x ((mem x).1 hx))
 have e:(u.map Prod.snd).sum=heldS B s:=by
  rw[←hu]
  show(([0,1,2,3,4].filterMap fun k=>(B k).map fun b=>(b,(s:Int))).map Prod.snd).sum=_
  unfold heldS
  simp only[List.filterMap_cons,List.filterMap_nil]
  cases B 0<;>cases B 1<;>cases B 2<;>cases B 3<;>cases B 4<;>simp<;>omega
 omega
theorem FillI.frc(h:FillI H s B){f:Int}(hf:0≤f∧f≤1000000000):FillI {H with forced:=f} s B:=⟨forced_sound h.ok hf,h.per,h.regs,h.far,h.inj,h.nod⟩
theorem aw_zero{K:Heap}{w:Word}(e:K.aw w=⟨0,0,0⟩):w=⟨0,0,0⟩:=by
 unfold Heap.aw at e
 by_cases hk:w.kind=2
 ·rw[if_pos hk]at e;simp only[Word.mk.injEq]at e;omega
 ·rw[if_neg hk]at e;exact e
theorem ap_rep{K:Heap}{m:Nat}{l:List Pair}(e:l.map K.ap=List.replicate m Pair.no):l=List.replicate m Pair.no:=by
 rw[List.eq_replicate_iff]at e⊢
 refine⟨by simpa using e.1,fun p hp=>?_⟩
 have:=e.2 _ (List.mem_map_of_mem (f:=K.ap) hp)
 unfold Heap.ap Pair.no at this
 simp only[Pair.mk.injEq]at this
 obtain⟨pk,pv⟩:=p
 obtain rfl:pk=_:=aw_zero this.1
 obtain rfl:pv=_:=aw_zero this.2
 rfl
theorem FillI.same(h:FillI H s B){K:Heap}(k:Sound K)(hp:K.per=H.per)(hr:K.regs.map K.aw=H.regs.map H.aw)(hn:∀b n,Node K b n→Node H b n):FillI K s B:=⟨k,by rw[hp];exact h.per,by rw[hr];exact h.regs,h.far,h.inj,fun i c c1 c2 c3=>by
 obtain⟨a,b⟩:=h.node (hn _ _ (node_at c1 c2 c3))
 exact⟨a,ap_rep b⟩⟩
theorem live_used(h:Sound H):liveN H≤H.used:=by
 rw[←h.r3.1]
 unfold liveN
 have key:∀k:Nat,k≤H.cells.length→sumT H (reachL H) k≤unitsN (H.cells.take k):=by
  intro k
  induction k with
  |zero=>intro _;simp[sumT,unitsN]
  |succ k ih=>
   intro hk
   have ih:=ih (by omega)
   have hu:=(units_le (getC_pl h.r2 k)).1
   have e:unitsN (H.cells.take (k+1))=unitsN (H.cells.take k)+(H.getC k).units:=by
    rw[List.take_add_one,get_at (by omega)]
    unfold unitsN
    simp
   rw[e]
   simp only[sumT]
   split<;>omega
 have:=key _ (Nat.le_refl _)
 rwa [List.take_length]at this
theorem FillI.fits(h:FillI H s B)(hs:1≤s):FillI (H.fitsH s) s B∧((H.fitsH s).used+s≤(H.fitsH s).room↔heldS B s+s≤H.room):=by
 obtain⟨f1,f2,f3,f4,f5,f6,f7⟩:=fits_ok h.ok s
 have hF:FillI (H.fitsH s) s B:=h.same f1 f6 f2 f3
 refine⟨hF,?_⟩
 rw[f4]
 have hl:=h.live hs
 by_cases e:H.used+s≤H.room
 ·have:H.fitsH s=H:=by unfold Heap.fitsH;rw[if_pos e]
  rw[this]
  have:=live_used h.ok
  exact⟨fun _=>by omega,fun _=>e⟩
 ·have hf:=h.ok.r1.forced
  have h1:FillI {H with forced:=if H.forced<1000000000 then H.forced+1 else H.forced} s B:=h.frc (by split<;>omega)
  have:H.fitsH s=Heap.roundH {H with forced:=if H.forced<1000000000 then H.forced+1 else H.forced}:=by unfold Heap.fitsH;rw[if_neg e]
  rw[this,(clean h1.ok).2,h1.live hs]
noncomputable def setB(B:Nat→Option Int)(k:Nat)(b:Int):Nat→Option Int:=fun j=>if j=k then some b else B j
theorem FillI.new(h:FillI H s B)(hs:1≤s∧s≤201)(hb:H.born<1000000000){k:Nat}(hk:k<5)(hr:H.used+s≤H.room):FillI (H.newH k 0 (s-1)) s (setB B k (H.born+1)):=by
 obtain⟨f0,f1,f2,_⟩:=frG_ok H H.cells.length
 have hS:Sound (H.newH k 0 (s-1)):=new_sound h.ok hb (by omega) (by omega) (by omega)
 obtain⟨a,ha⟩:=Int.eq_ofNat_of_zero_le f0
 have gK:∀j:Int,(H.newH k 0 (s-1)).getC j=if j.toNat=a then Cell.fresh 0 (H.born+1) (newCol H a) (s-1)else H.getC j:=fun j=>by
  have:=addC_L (cs:=H.cells) (at_:=(frG H H.cells.length).toNat) (c:=Cell.fresh 0 (H.born+1) (newCol H (frG H H.cells.length)) (s-1)) (by omega) j
  rw[ha]at this
  rw[getC_L,getC_L]
  unfold Heap.newH
  rw[ha]
  exact this
 have hne:∀w,w∈H.regs→w.kind=2→w.at_.toNat≠a:=fun w hw hk2 e=>by
  obtain⟨u1,u2⟩:=reg_used h.ok.r4 hw
  have hat:=u1.at hk2
  have e2:w.at_=frG H H.cells.length:=by omega
  have:=(u2 hk2).1
  rw[e2]at this hat
  have:=(f2 hat.2).2
  omega
 have rg:(H.newH k 0 (s-1)).regs=H.regs.set k ⟨2,0,a⟩:=by unfold Heap.newH;rw[ha]
 have h16:H.regs.length=16:=h.ok.r1.regs
 refine⟨hS,h.per,fun j hj=>?_,fun j hj=>?_,?_,fun i c hc hs1 hd=>?_⟩
 ·have hold:=h.regs j hj
  rw[List.getElem?_map]at hold⊢
  rw[rg,List.getElem?_set]
  by_cases e:k=j
  ·subst e
   rw[if_pos rfl,if_pos (by omega)]
   have hm:(⟨2,0,a⟩:Word)∈(H.newH k 0 (s-1)).regs:=by rw[rg];exact List.mem_of_getElem? (i:=k) (by rw[List.getElem?_set,if_pos rfl,if_pos (by omega)])
   simp only[Option.map_some,setB,if_true]
   rw[aw_reg hS.r4 hm,if_pos rfl,gK,if_pos (by simp)]
   rfl
  ·rw[if_neg e]
   have e1:setB B k (H.born+1) j=B j:=by unfold setB;rw[if_neg (fun x=>e x.symm)]
   rw[e1,←hold]
   cases hw:H.regs[j]? with
   |none=>rfl
   |some w=>
    have hm:=List.mem_of_getElem? hw
    have hm2:w∈(H.newH k 0 (s-1)).regs:=by rw[rg];exact List.mem_of_getElem? (i:=j) (by rw[List.getElem?_set,if_neg e];exact hw)
    simp only[Option.map_some,Option.some.injEq]
    rw[aw_reg hS.r4 hm2,aw_reg h.ok.r4 hm]
    by_cases hk2:w.kind=2
    ·rw[if_pos hk2,if_pos hk2,gK,if_neg (hne w hm hk2)]
    ·rw[if_neg hk2,if_neg hk2]
 ·unfold setB
  rw[if_neg (by omega)]
  exact h.far j hj
 ·have lt:∀j b,B j=some b→b≤H.born:=fun j b hb=>by
   obtain⟨w,i,c,_,_,_,c1,c2,_,c4⟩:=h.word (k:=j) (by
    rcases Nat.lt_or_ge j 5 with y|y
    ·omega
    ·rw[h.far j y]at hb;cases hb) hb
   obtain⟨_,_,_,_,⟨_,u⟩,_⟩:=h.ok.r2.used c1 c2
   omega
  intro i j b hi hj
  unfold setB at hi hj
  by_cases e1:i=k
  ·by_cases e2:j=k
   ·omega
   ·rw[if_pos e1]at hi
    rw[if_neg e2]at hj
    have:=lt j b hj
    simp only[Option.some.injEq]at hi
    omega
  ·rw[if_neg e1]at hi
   by_cases e2:j=k
   ·rw[if_pos e2]at hj
    have:=lt i b hi
    simp only[Option.some.injEq]at hj
    omega
   ·rw[if_neg e2]at hj
    exact h.inj i j b hi hj
 ·have hc':(addC H.cells a (Cell.fresh 0 (H.born+1) (newCol H a) (s-1)))[i]?=some c:=by
   unfold Heap.newH at hc
   rw[ha]at hc
   exact hc
  rcases addC_gt (by omega) hc' with⟨e1,e2⟩|⟨e1,e2⟩
  ·subst e2;exact⟨rfl,rfl⟩
  ·refine h.nod i c e2 hs1 (fun hD=>hd ?_)
   obtain⟨d1,d2,d3,d4⟩:=hD
   have g:(H.newH k 0 (s-1)).getC i=H.getC i:=by rw[gK,if_neg (by omega)]
   exact⟨d1,by rw[g];exact d2,by rw[g];exact d3,d4⟩
theorem FillI.step(h:FillI H s B)(hs:1≤s∧s≤201)(hb:H.born<1000000000){k:Nat}(hk:k<5):
 (doNew H ⟨1,k,0,(s:Int)-1,0⟩).num=0∧(doNew H ⟨1,k,0,(s:Int)-1,0⟩).heap.room=H.room∧
 (heldS B s+s≤H.room→(doNew H ⟨1,k,0,(s:Int)-1,0⟩).code=0∧(doNew H ⟨1,k,0,(s:Int)-1,0⟩).heap.born=H.born+1∧FillI (doNew H ⟨1,k,0,(s:Int)-1,0⟩).heap s (setB B k (H.born+1)))∧
 (¬heldS B s+s≤H.room→(doNew H ⟨1,k,0,(s:Int)-1,0⟩).code=4∧(doNew H ⟨1,k,0,(s:Int)-1,0⟩).heap.born=H.born∧FillI (doNew H ⟨1,k,0,(s:Int)-1,0⟩).heap s B):=by
 obtain⟨a,b⟩:=h.fits hs.1
 obtain⟨f1,f2,f3,f4,f5,f6,f7⟩:=fits_ok h.ok s
 have e1:(1:Int)+((s:Int)-1)=s:=by omega
 have e2:((s:Int)-1).toNat=s-1:=by omega
 unfold doNew
 simp only[e1,e2,Int.toNat_natCast]
 rw[if_neg (by omega)]
 by_cases c:heldS B s+s≤H.room
 ·rw[if_pos (b.2 c)]
  have hn:=a.new hs (by omega) hk (b.2 c)
  have ep:((H.fitsH s).newH k 0 (s-1)).paceH s=(H.fitsH s).newH k 0 (s-1):=by unfold Heap.paceH;rw[if_pos (.inl hn.per)]
  simp only[ep]
  refine⟨trivial,f4,fun _=>⟨trivial,?_,by rw[←f5];exact hn⟩,fun x=>absurd c x⟩
  show(H.fitsH s).born+1=H.born+1
  rw[f5]
 ·rw[if_neg (fun x=>c (b.1 x))]
  exact⟨rfl,f4,fun x=>absurd x c,fun _=>⟨rfl,f5,a⟩⟩
end
noncomputable def runH:Heap→List Act→Heap
 |H,[]=>H
 |H,b::r=>runH (actA H b).heap r
noncomputable def ansL:Heap→List Act→List (Int×Int)
 |_,[]=>[]
 |H,b::r=>((actA H b).code,(actA H b).num)::ansL (actA H b).heap r
theorem runH_app:∀(l:List Act) (H:Heap) (b:Act),runH H (l++[b])=(actA (runH H l) b).heap
 |[],_,_=>rfl
 |c::r,H,b=>runH_app r (actA H c).heap b
theorem ansL_app:∀(l:List Act) (H:Heap) (b:Act),ansL H (l++[b])=ansL H l++[((actA (runH H l) b).code,(actA (runH H l) b).num)]
 |[],_,_=>rfl
 |c::r,H,b=>by
  show _::ansL (actA H c).heap (r++[b])=_
  rw[ansL_app r];rfl
theorem runH_sound:∀(l:List Act) {H:Heap},Sound H→Sound (runH H l)
 |[],_,h=>h
 |b::r,_,h=>runH_sound r (actA_sound h)
theorem ansL_len:∀(l:List Act) (H:Heap),(ansL H l).length=l.length
 |[],_=>rfl
 |b::r,H=>by simp[ansL,ansL_len r]
def mfA(s i:Nat):Act:=⟨1,((i%5:Nat):Int),0,(s:Int)-1,0⟩
def mfL(n s:Nat):List Act:=(List.range n).map (mfA s)
theorem mfL_len(n s:Nat):(mfL n s).length=n:=by simp[mfL]
theorem mfL_succ(n s:Nat):mfL (n+1) s=mfL n s++[mfA s n]:=by simp[mfL,List.range_succ]
def hsum(f:Nat→Bool)(s:Nat):Int:=(if f 0 then(s:Int)else 0)+(if f 1 then(s:Int)else 0)+(if f 2 then(s:Int)else 0)+(if f 3 then(s:Int)else 0)+(if f 4 then(s:Int)else 0)
def hB(room:Int)(s:Nat):Nat→Nat→Bool
 |0,_=>false
 |i+1,k=>if hsum (hB room s i) s+s≤room then(decide (k=i%5)||hB room s i k)else hB room s i k
theorem nw_fill{H:Heap}(h:Sound H)(h0:H.cells=[])(hp:H.per=0)(hr:H.regs=List.replicate 16 ⟨0,0,0⟩)(s:Nat):FillI H s (fun _=>none):=⟨h,hp,fun k hk=>by
 rw[hr,List.map_replicate,List.getElem?_replicate,if_pos hk]
 simp only
 unfold Heap.aw
 rw[if_neg (by show ¬(0:Int)=2;omega)],fun _ _=>rfl,fun j k b hb=>(by cases hb),fun i c hc=>by rw[h0]at hc;simp at hc⟩
theorem actP_fill{s i:Nat}(hs:1≤s∧s≤201):ActP (mfA s i):=by
 unfold ActP mfA
 simp[aMost,bMost,cMost]
 omega
theorem held_hsum{B:Nat→Option Int}{f:Nat→Bool}{s:Nat}(h:∀k,(B k).isSome=f k):heldS B s=hsum f s:=by
 unfold heldS hsum
 rw[h,h,h,h,h]
theorem mf_run{H:Heap}{room:Int}{s:Nat}(hs:1≤s∧s≤201)(h:FillI H s (fun _=>none))(hr:H.room=room)(hb:H.born=0):∀i:Nat,i≤100→(∃B,FillI (runH H (mfL i s)) s B∧(∀k,(B k).isSome=hB room s i k))∧(runH H (mfL i s)).room=room∧0≤(runH H (mfL i s)).born∧(runH H (mfL i s)).born≤i∧ansL H (mfL i s)=(List.range i).map fun j=>(if hsum (hB room s j) s+s≤room then 0 else 4,0)
 |0,_=>⟨⟨_,h,fun _=>rfl⟩,hr,by show 0≤H.born;omega,by show H.born≤0;omega,rfl⟩
 |i+1,hi=>by
  obtain⟨⟨B,f1,f2⟩,f3,f4,f5,f6⟩:=mf_run hs h hr hb i (by omega)
  rw[mfL_succ,runH_app,ansL_app,f6,List.range_succ,List.map_append]
  generalize runH H (mfL i s)=K at f1 f3 f4 f5
  have e:actA K (mfA s i)=doNew K ⟨1,((i%5:Nat):Int),0,(s:Int)-1,0⟩:=by unfold actA;rw[if_pos (actP_fill hs)];rfl
  rw[e]
  obtain⟨g1,g2,g3,g4⟩:=f1.step hs (by omega) (k:=i%5) (by omega)
  rw[held_hsum f2,f3]at g3 g4
  rw[g1]
  by_cases c:hsum (hB room s i) s+s≤room
  ·obtain⟨k1,k2,k3⟩:=g3 c
   refine⟨⟨_,k3,fun k=>?_⟩,by rw[g2,f3],by omega,by omega,?_⟩
   ·show(if k=i%5 then some (K.born+1)else B k).isSome=(if _ then(decide (k=i%5)||hB room s i k)else _)
    rw[if_pos c]
    by_cases ek:k=i%5
    ·rw[if_pos ek];simp[ek]
    ·rw[if_neg ek,f2];simp[ek]
   ·rw[k1];simp[c]
  ·obtain⟨k1,k2,k3⟩:=g4 c
   refine⟨⟨_,k3,fun k=>?_⟩,by rw[g2,f3],by omega,by omega,?_⟩
   ·show(B k).isSome=(if _ then _ else hB room s i k)
    rw[if_neg c,f2]
   ·rw[k1];simp[c]
end Go.Proofs.YtpleoapljeffiaaDoor.E
namespace Go.Proofs.YtpleoapljeffiaaDoor.E
open Go
noncomputable def e17:Env:=⟨Tryd.prog,[2,7,18],22,[]⟩
abbrev zz(a0:Nat)(a1:Nat)(a2:Nat):I:=⟨some a0,none,.mov (.const (.slice none a1 a2))⟩
noncomputable def c17:C:=
 .seq (.reg [zR 2 0,zz 4 0 0]) (.seq (.reg [zz 5 0 0]) (.seq (.seq (.reg [z0 8 1,zG 9 8,zI 10 0]) (.block 0 (.loop (.seq (.reg [zQ 11 10 9]) (.seq (.cond (.tmp 11) .skip (.exit 0)) (.seq (.block 1 (.seq (.reg [zC 12 5 8 10,z8 13 5 12,⟨some 7,none,.alloc true [.int .i64 0,.int .i64 0,.int .i64 0,.int .i64 0,.int .i64 0]⟩,z6 5 7 13]) (.reg [z0 14 5,z8 15 2 2,z8 16 5 7,zP 17 27 15 16,⟨some 18,
 none,.bslice true 1 2 [.int .i64 0,.int .i64 0] [(0,2,.tmp 17)]⟩,⟨some 19,none,.app 2 16 [.int .i64 0,.int .i64 0] (.tmp 14) (.tmp 18)⟩,z0 5 19]))) (.reg [zN 20 10 1,z0 10 20]))))))) (.seq (.reg [z0 21 5,z0 4 21]) .ret)))
theorem t17:Tryd.f17.body.bind (trC e17)=some c17:=by kernel_rfl
theorem r17:Tryd.f17.results.toList.mapM (trR Tryd.prog)=some [.tmp 4]:=by kernel_rfl
theorem fn17{args:List Value}{M:Mem}{post:Value→Mem→Prop}(hl:args.length≤22)(h:VC e17 c17 (fnQ [.tmp 4] post) (initS args 22) M):Fn Tryd.prog 17 args M post:=
 Fn.of' (E:=e17) Tryd.func17 t17 rfl r17 mixed hl h
noncomputable def e15:Env:=⟨Tryd.prog,[],12,[]⟩
noncomputable def c15:C:=
 .seq (.reg [zF 4]) (.seq (.reg [z0 5 0,q9 6 26 5 1 4000,z0 7 6,zD 8 7 1,zi 9 7 8,⟨some 10,some (7,true),.bin .leq (.tmp 9) (.const (.int .i64 1000))⟩,zE 11 7 10,z0 4 11]) .ret)
theorem t15:Tryd.f15.body.bind (trC e15)=some c15:=by kernel_rfl
theorem r15:Tryd.f15.results.toList.mapM (trR Tryd.prog)=some [.tmp 4]:=by kernel_rfl
theorem fn15{args:List Value}{M:Mem}{post:Value→Mem→Prop}(hl:args.length≤12)(h:VC e15 c15 (fnQ [.tmp 4] post) (initS args 12) M):Fn Tryd.prog 15 args M post:=
 Fn.of' (E:=e15) Tryd.func15 t15 rfl r15 mixed hl h
noncomputable def e8:Env:=⟨Tryd.prog,[4],20,[]⟩
noncomputable def c8:C:=
 .seq (.reg [⟨some 4,none,.alloc true [.bool false,.slice none 0 0,.int .i64 0,.int .i64 0,.int .i64 0,.slice none 0 0,.slice none 0 0,.int .i64 0,.int .i64 0,.int .i64 0,.slice none 0 0,.int .i64 0,.int .i64 0,.int .i64 0,.int .i64 0]⟩]) (.seq (.seq (.reg [z0 7 0,z0 8 1,zP 9 15 7 8,zU 10 9]) (.cond (.tmp 10) (.seq (.reg [⟨some 11,none,.build [.bool false,.slice none 0 0,.int .i64 0,.int .i64 0,
 .int .i64 0,.slice none 0 0,.slice none 0 0,.int .i64 0,.int .i64 0,.int .i64 0,.slice none 0 0,.int .i64 0,.int .i64 0,.int .i64 0,.int .i64 0] []⟩,z6 15 4 11]) .ret) .skip)) (.seq (.reg [z0 12 0,zM 13 16 12,⟨some 5,none,.alloc false [.int .i64 0,.int .i64 0,.int .i64 0,.slice none 0 0,.slice none 0 0,.int .i64 0,.int .i64 0,.int .i64 0,.slice none 0 0,.int .i64 0,.int .i64 0,.int .i64 0,.int
 .i64 0]⟩,z6 13 5 13]) (.seq (.reg [⟨some 14,none,.build [.pointer none,.bool false] [(0,1,.tmp 5),(1,1,.const (.bool false))]⟩,z0 15 1,zP 16 17 14 15,z0 6 16]) (.seq (.reg [z0 17 6,z8 18 13 5,⟨some 19,none,.build [.bool false,.slice none 0 0,.int .i64 0,.int .i64 0,.int .i64 0,.slice none 0 0,.slice none 0 0,.int .i64 0,.int .i64 0,.int .i64 0,.slice none 0 0,.int .i64 0,.int .i64 0,.int .i64 0,
 .int .i64 0] [(0,1,.const (.bool true)),(1,1,.tmp 17),(2,13,.tmp 18)]⟩,z6 15 4 19]) .ret))))
theorem t8:Tryd.f8.body.bind (trC e8)=some c8:=by kernel_rfl
theorem r8:Tryd.f8.results.toList.mapM (trR Tryd.prog)=some [.cell 4 false 15]:=by kernel_rfl
theorem fn8{args:List Value}{M:Mem}{post:Value→Mem→Prop}(hl:args.length≤20)(h:VC e8 c8 (fnQ [.cell 4 false 15] post) (initS args 20) M):Fn Tryd.prog 8 args M post:=
 Fn.of' (E:=e8) Tryd.func8 t8 rfl r8 mixed hl h
end Go.Proofs.YtpleoapljeffiaaDoor.E
