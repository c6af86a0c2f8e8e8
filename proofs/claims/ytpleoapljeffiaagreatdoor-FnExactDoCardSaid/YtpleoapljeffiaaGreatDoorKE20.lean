/- A part of the proof. Conditions: none. -/
import Derived.Test.YtpleoapljeffiaaGreatDoorKE19
set_option linter.unusedVariables false
set_option linter.unusedSimpArgs false
set_option maxHeartbeats 8000000
set_option maxRecDepth 100000
namespace Go.Proofs.YtpleoapljeffiaaGreatDoor.E
open Go
open Classical
theorem l5cell_g{a:Nat}{x:HX}{n:Int}{ka kb kc:Nat}(h:Sound x.H)(ha:ka≤15)(hc:kc≤200):FnA Tryz.prog 57 [ptr a,.agg #[.int .i64 9,.int .i64 ka,.int .i64 kb,.int .i64 kc,.int .i64 n]] (hp a x) (fun v As=>∃z:HX,v=an (doCell x.H ⟨9,ka,kb,kc,n⟩).code (doCell x.H ⟨9,ka,kb,kc,n⟩).num∧As=hp a z∧z.H=(doCell x.H ⟨9,ka,kb,kc,n⟩).heap):=by
 have hl:=x.len
 have hnc:x.hdr.nc=x.xs.length:=rfl
 have hnr:x.hdr.nr=x.regs.length:=rfl
 have h16:x.regs.length=16:=h.r1.regs
 obtain⟨w,gw⟩:∃w,x.regs[ka]?=some w:=⟨_,List.getElem?_eq_getElem (by omega)⟩
 have er:x.H.getR ka=w:=getR_at gw
 refine fnA_of (fun h=>fn57 (by simp) h) ?_
 unfold doCell
 dsimp only
 rw[er]
 by_cases hk:w.kind=2
 ·obtain⟨wk,wn,wat⟩:=w
  dsimp only at hk
  subst hk
  rw[if_neg (fun e=>e rfl)]
  repeat' (first|refine xx ?_|(refine k_L ?_;(refine g_c rfl (l5grow_a (x:=x) (op:=9) (n:=n) (ka:=ka) (kb:=kb) (kc:=kc) h ha hc (by rw[er])) (fun v As' hq=>?_);obtain⟨z,rfl,rfl,hz⟩:=hq))|fail)
  all_goals exact fa_r (fun _ _=>rfl) (Pm.ent pmt) ⟨z,rfl,rfl,hz⟩
 ·rw[if_pos hk]
  repeat' (first|refine xx ?_|(refine xy ?_ ?_<;>intro hb<;>try(exfalso;omega))|(refine k_L ?_;(refine k_c ?_;refine a_cq rfl (fun m hm=>l5bad_q) ?_))|fail)
  all_goals exact fa_r (fun _ _=>rfl) (Pm.ent pmt) ⟨x,rfl,rfl,rfl⟩
theorem do_9{a:Nat}{x:HX}{n:Int}{ka kb kc:Nat}(h:Sound x.H)(hP:ActP ⟨9,ka,kb,kc,n⟩):FnA Tryz.prog 26 [ptr a,.agg #[.int .i64 9,.int .i64 ka,.int .i64 kb,.int .i64 kc,.int .i64 n]] (hp a x) (fun v As=>∃z:HX,v=an (doCell x.H ⟨9,ka,kb,kc,n⟩).code (doCell x.H ⟨9,ka,kb,kc,n⟩).num∧As=hp a z∧z.H=(doCell x.H ⟨9,ka,kb,kc,n⟩).heap):=by
 have hQ:=hP
 simp[ActP,aMost,bMost,cMost]at hQ
 refine fnA_of (fun h=>fn26 (by simp) h) ?_
 repeat' (first|refine xx ?_|(refine k_L ?_;first|(refine k_c ?_;refine a_cq rfl (fun m hm=>actOk_t (b:=⟨9,ka,kb,kc,n⟩) hP) ?_)|(refine g_c rfl (l5cell_g (x:=x) (n:=n) (ka:=ka) (kb:=kb) (kc:=kc) h (by omega) (by omega)) (fun v As' hq=>?_);obtain⟨z,rfl,rfl,hz⟩:=hq))|fail)
 all_goals exact fa_r (fun _ _=>rfl) (Pm.ent pmt) ⟨z,rfl,rfl,hz⟩
theorem do_10{a:Nat}{x:HX}{n:Int}{ka kb kc:Nat}(h:Sound x.H)(hP:ActP ⟨10,ka,kb,kc,n⟩):FnA Tryz.prog 26 [ptr a,.agg #[.int .i64 10,.int .i64 ka,.int .i64 kb,.int .i64 kc,.int .i64 n]] (hp a x) (fun v As=>∃z:HX,v=an (doCell x.H ⟨10,ka,kb,kc,n⟩).code (doCell x.H ⟨10,ka,kb,kc,n⟩).num∧As=hp a z∧z.H=(doCell x.H ⟨10,ka,kb,kc,n⟩).heap):=by
 have hQ:=hP
 simp[ActP,aMost,bMost,cMost]at hQ
 refine fnA_of (fun h=>fn26 (by simp) h) ?_
 repeat' (first|refine xx ?_|(refine k_L ?_;first|(refine k_c ?_;refine a_cq rfl (fun m hm=>actOk_t (b:=⟨10,ka,kb,kc,n⟩) hP) ?_)|(refine g_c rfl (l5cell_b (x:=x) (op:=10) (n:=n) (ka:=ka) (kb:=kb) (kc:=kc) h (by omega) (by omega)) (fun v As' hq=>?_);obtain⟨z,rfl,rfl,hz⟩:=hq))|fail)
 all_goals exact fa_r (fun _ _=>rfl) (Pm.ent pmt) ⟨z,rfl,rfl,hz⟩
theorem do_11{a:Nat}{x:HX}{n:Int}{ka kb kc:Nat}(h:Sound x.H)(hP:ActP ⟨11,ka,kb,kc,n⟩):FnA Tryz.prog 26 [ptr a,.agg #[.int .i64 11,.int .i64 ka,.int .i64 kb,.int .i64 kc,.int .i64 n]] (hp a x) (fun v As=>∃z:HX,v=an (doCell x.H ⟨11,ka,kb,kc,n⟩).code (doCell x.H ⟨11,ka,kb,kc,n⟩).num∧As=hp a z∧z.H=(doCell x.H ⟨11,ka,kb,kc,n⟩).heap):=by
 have hQ:=hP
 simp[ActP,aMost,bMost,cMost]at hQ
 refine fnA_of (fun h=>fn26 (by simp) h) ?_
 repeat' (first|refine xx ?_|(refine k_L ?_;first|(refine k_c ?_;refine a_cq rfl (fun m hm=>actOk_t (b:=⟨11,ka,kb,kc,n⟩) hP) ?_)|(refine g_c rfl (l5cell_a (x:=x) (op:=11) (n:=n) (ka:=ka) (kb:=kb) (kc:=kc) h (by omega) (by omega)) (fun v As' hq=>?_);obtain⟨z,rfl,rfl,hz⟩:=hq))|fail)
 all_goals exact fa_r (fun _ _=>rfl) (Pm.ent pmt) ⟨z,rfl,rfl,hz⟩
theorem do_12{a:Nat}{x:HX}{n:Int}{ka kb kc:Nat}(h:Sound x.H)(hP:ActP ⟨12,ka,kb,kc,n⟩):FnA Tryz.prog 26 [ptr a,.agg #[.int .i64 12,.int .i64 ka,.int .i64 kb,.int .i64 kc,.int .i64 n]] (hp a x) (fun v As=>∃z:HX,v=an (doCell x.H ⟨12,ka,kb,kc,n⟩).code (doCell x.H ⟨12,ka,kb,kc,n⟩).num∧As=hp a z∧z.H=(doCell x.H ⟨12,ka,kb,kc,n⟩).heap):=by
 have hQ:=hP
 simp[ActP,aMost,bMost,cMost]at hQ
 refine fnA_of (fun h=>fn26 (by simp) h) ?_
 repeat' (first|refine xx ?_|(refine k_L ?_;first|(refine k_c ?_;refine a_cq rfl (fun m hm=>actOk_t (b:=⟨12,ka,kb,kc,n⟩) hP) ?_)|(refine g_c rfl (l5cell_b (x:=x) (op:=12) (n:=n) (ka:=ka) (kb:=kb) (kc:=kc) h (by omega) (by omega)) (fun v As' hq=>?_);obtain⟨z,rfl,rfl,hz⟩:=hq))|fail)
 all_goals exact fa_r (fun _ _=>rfl) (Pm.ent pmt) ⟨z,rfl,rfl,hz⟩
theorem do_16{a:Nat}{x:HX}{n:Int}{ka kb kc:Nat}(h:Sound x.H)(hP:ActP ⟨16,ka,kb,kc,n⟩):FnA Tryz.prog 26 [ptr a,.agg #[.int .i64 16,.int .i64 ka,.int .i64 kb,.int .i64 kc,.int .i64 n]] (hp a x) (fun v As=>∃z:HX,v=an (doCell x.H ⟨16,ka,kb,kc,n⟩).code (doCell x.H ⟨16,ka,kb,kc,n⟩).num∧As=hp a z∧z.H=(doCell x.H ⟨16,ka,kb,kc,n⟩).heap):=by
 have hQ:=hP
 simp[ActP,aMost,bMost,cMost]at hQ
 refine fnA_of (fun h=>fn26 (by simp) h) ?_
 repeat' (first|refine xx ?_|(refine k_L ?_;first|(refine k_c ?_;refine a_cq rfl (fun m hm=>actOk_t (b:=⟨16,ka,kb,kc,n⟩) hP) ?_)|(refine g_c rfl (l5cell_a (x:=x) (op:=16) (n:=n) (ka:=ka) (kb:=kb) (kc:=kc) h (by omega) (by omega)) (fun v As' hq=>?_);obtain⟨z,rfl,rfl,hz⟩:=hq))|fail)
 all_goals exact fa_r (fun _ _=>rfl) (Pm.ent pmt) ⟨z,rfl,rfl,hz⟩
theorem do_17{a:Nat}{x:HX}{n:Int}{ka kb kc:Nat}(h:Sound x.H)(hP:ActP ⟨17,ka,kb,kc,n⟩):FnA Tryz.prog 26 [ptr a,.agg #[.int .i64 17,.int .i64 ka,.int .i64 kb,.int .i64 kc,.int .i64 n]] (hp a x) (fun v As=>∃z:HX,v=an (doCell x.H ⟨17,ka,kb,kc,n⟩).code (doCell x.H ⟨17,ka,kb,kc,n⟩).num∧As=hp a z∧z.H=(doCell x.H ⟨17,ka,kb,kc,n⟩).heap):=by
 have hQ:=hP
 simp[ActP,aMost,bMost,cMost]at hQ
 refine fnA_of (fun h=>fn26 (by simp) h) ?_
 repeat' (first|refine xx ?_|(refine k_L ?_;first|(refine k_c ?_;refine a_cq rfl (fun m hm=>actOk_t (b:=⟨17,ka,kb,kc,n⟩) hP) ?_)|(refine g_c rfl (l5cell_a (x:=x) (op:=17) (n:=n) (ka:=ka) (kb:=kb) (kc:=kc) h (by omega) (by omega)) (fun v As' hq=>?_);obtain⟨z,rfl,rfl,hz⟩:=hq))|fail)
 all_goals exact fa_r (fun _ _=>rfl) (Pm.ent pmt) ⟨z,rfl,rfl,hz⟩
section
variable {a:Nat} {x:HX} {n:Int} {ka kb kc:Nat}
theorem do_2(h:Sound x.H)(hP:ActP ⟨2,ka,kb,kc,n⟩):FnA Tryz.prog 26 [ptr a,.agg #[.int .i64 2,.int .i64 ka,.int .i64 kb,.int .i64 kc,.int .i64 n]] (hp a x) (fun v As=>∃z:HX,v=an 0 0∧As=hp a z∧z.H=x.H.setR ka ⟨1,n,0⟩):=by
 have hQ:=hP
 simp[ActP,aMost,bMost,cMost]at hQ
 have hnr:x.hdr.nr=x.regs.length:=rfl
 have h16:x.regs.length=16:=h.r1.regs
 obtain⟨w,gw⟩:∃w,x.regs[ka]?=some w:=⟨_,List.getElem?_eq_getElem (by omega)⟩
 refine fnA_of (fun h=>fn26 (by simp) h) ?_
 repeat' (first
  |(refine k_L ?_;first|(refine k_l ?_;refine g_l rfl ?_)|(refine k_i ?_;refine g_i rfl rfl ?_)|(refine k_st ?_;first|refine g_st rfl rfl rfl rfl ?_|refine g_sw rfl rfl rfl rfl (Nat.le_of_ble_eq_true rfl) ?_)|(refine k_al ?_;refine a_al ?_)|(refine k_bx ?_;refine a_bx rfl rfl ?_)|(refine k_c ?_;first|refine a_cq rfl (fun m hm=>actOk_t (b:=⟨2,ka,kb,kc,n⟩) hP) ?_|refine a_cq rfl (fun m hm=>l5fine_q) ?_)|(refine b_w ⟨1,n,0⟩ rfl ?_)|(refine b_p rfl ?_))
  |refine a_n ?_
  |(refine k_V ?_;first|refine v_seq ?_|refine v_reg ?_|refine v_dreg ?_|refine v_bs ?_|refine v_ret ?_|refine v_skip ?_|refine v_ct rfl ?_|refine v_cf rfl ?_)
  |refine sk_zero ?_
  |refine sk_succ ?_
  |refine wk_nil ?_
  |refine wk_cons ?_)
 all_goals exact fa_r (fun _ _=>rfl) (Pm.ent (fin ({x with regs:=x.regs.set ka ⟨1,n,0⟩}:HX) (h1:=by simp[HX.hdr]))) ⟨_,rfl,rfl,rfl⟩
theorem do_3(h:Sound x.H)(hP:ActP ⟨3,ka,kb,kc,n⟩):FnA Tryz.prog 26 [ptr a,.agg #[.int .i64 3,.int .i64 ka,.int .i64 kb,.int .i64 kc,.int .i64 n]] (hp a x) (fun v As=>∃z:HX,v=an 0 0∧As=hp a z∧z.H=x.H.setR ka ⟨0,0,0⟩):=by
 have hQ:=hP
 simp[ActP,aMost,bMost,cMost]at hQ
 have hnr:x.hdr.nr=x.regs.length:=rfl
 have h16:x.regs.length=16:=h.r1.regs
 obtain⟨w,gw⟩:∃w,x.regs[ka]?=some w:=⟨_,List.getElem?_eq_getElem (by omega)⟩
 refine fnA_of (fun h=>fn26 (by simp) h) ?_
 repeat' (first
  |(refine k_L ?_;first|(refine k_l ?_;refine g_l rfl ?_)|(refine k_i ?_;refine g_i rfl rfl ?_)|(refine k_st ?_;first|refine g_st rfl rfl rfl rfl ?_|refine g_sw rfl rfl rfl rfl (Nat.le_of_ble_eq_true rfl) ?_)|(refine k_al ?_;refine a_al ?_)|(refine k_bx ?_;refine a_bx rfl rfl ?_)|(refine k_c ?_;first|refine a_cq rfl (fun m hm=>actOk_t (b:=⟨3,ka,kb,kc,n⟩) hP) ?_|refine a_cq rfl (fun m hm=>l5fine_q) ?_)|(refine b_w ⟨0,0,0⟩ rfl ?_)|(refine b_p rfl ?_))
  |refine a_n ?_
  |(refine k_V ?_;first|refine v_seq ?_|refine v_reg ?_|refine v_dreg ?_|refine v_bs ?_|refine v_ret ?_|refine v_skip ?_|refine v_ct rfl ?_|refine v_cf rfl ?_)
  |refine sk_zero ?_
  |refine sk_succ ?_
  |refine wk_nil ?_
  |refine wk_cons ?_)
 all_goals exact fa_r (fun _ _=>rfl) (Pm.ent (fin ({x with regs:=x.regs.set ka ⟨0,0,0⟩}:HX) (h1:=by simp[HX.hdr]))) ⟨_,rfl,rfl,rfl⟩
theorem do_4(h:Sound x.H)(hP:ActP ⟨4,ka,kb,kc,n⟩):FnA Tryz.prog 26 [ptr a,.agg #[.int .i64 4,.int .i64 ka,.int .i64 kb,.int .i64 kc,.int .i64 n]] (hp a x) (fun v As=>∃z:HX,v=an 0 0∧As=hp a z∧z.H=x.H.setR ka (x.H.getR kb)):=by
 have hQ:=hP
 simp[ActP,aMost,bMost,cMost]at hQ
 have hnr:x.hdr.nr=x.regs.length:=rfl
 have h16:x.regs.length=16:=h.r1.regs
 obtain⟨w,gw⟩:∃w,x.regs[ka]?=some w:=⟨_,List.getElem?_eq_getElem (by omega)⟩
 obtain⟨v,gv⟩:∃w,x.regs[kb]?=some w:=⟨_,List.getElem?_eq_getElem (by omega)⟩
 rw[getR_at gv]
 refine fnA_of (fun h=>fn26 (by simp) h) ?_
 repeat' (first|refine xx ?_|(refine k_L ?_;(refine k_c ?_;first|refine a_cq rfl (fun m hm=>actOk_t (b:=⟨4,ka,kb,kc,n⟩) hP) ?_|refine a_cq rfl (fun m hm=>l5fine_q) ?_))|fail)
 all_goals exact fa_r (fun _ _=>rfl) (Pm.ent (fin ({x with regs:=x.regs.set ka v}:HX) (h1:=by simp[HX.hdr]))) ⟨_,rfl,rfl,rfl⟩
theorem do_13(h:Sound x.H)(hP:ActP ⟨13,ka,kb,kc,n⟩):FnA Tryz.prog 26 [ptr a,.agg #[.int .i64 13,.int .i64 ka,.int .i64 kb,.int .i64 kc,.int .i64 n]] (hp a x) (fun v As=>v=an 0 (if x.H.getR ka=x.H.getR kb then 1 else 0)∧As=hp a x):=by
 have hQ:=hP
 simp[ActP,aMost,bMost,cMost]at hQ
 have hnr:x.hdr.nr=x.regs.length:=rfl
 have h16:x.regs.length=16:=h.r1.regs
 obtain⟨w,gw⟩:∃w,x.regs[ka]?=some w:=⟨_,List.getElem?_eq_getElem (by omega)⟩
 obtain⟨v,gv⟩:∃w,x.regs[kb]?=some w:=⟨_,List.getElem?_eq_getElem (by omega)⟩
 rw[getR_at gv,getR_at gw]
 obtain⟨wk,wn,wat⟩:=w
 obtain⟨vk,vn,vat⟩:=v
 refine fnA_of (fun h=>fn26 (by simp) h) ?_
 repeat' (first|refine xx ?_|(refine k_L ?_;(refine k_c ?_;first|refine a_cq rfl (fun m hm=>actOk_t (b:=⟨13,ka,kb,kc,n⟩) hP) ?_|refine a_cq rfl (fun m hm=>l5fine_q) ?_))|(refine k_V ?_;(refine v_cond _ rfl (fun hb=>?_) (fun hb=>?_)))|fail)
 ·have e:wk=vk∧wn=vn∧wat=vat:=by simpa using hb
  refine fa_r (fun _ _=>rfl) (Pm.ent pmt) ⟨?_,rfl⟩
  rw[if_pos (by rw[e.1,e.2.1,e.2.2])];rfl
 ·have e:¬(wk=vk∧wn=vn∧wat=vat):=fun e=>by
   obtain⟨rfl,rfl,rfl⟩:=e
   simp at hb
  refine fa_r (fun _ _=>rfl) (Pm.ent pmt) ⟨?_,rfl⟩
  rw[if_neg (fun h=>e (by rw[Word.mk.injEq]at h;exact h))];rfl
theorem do_14(h:Sound x.H)(hP:ActP ⟨14,ka,kb,kc,n⟩):FnA Tryz.prog 26 [ptr a,.agg #[.int .i64 14,.int .i64 ka,.int .i64 kb,.int .i64 kc,.int .i64 n]] (hp a x) (fun v As=>v=an 0 (x.H.getR ka).kind∧As=hp a x):=by
 have hQ:=hP
 simp[ActP,aMost,bMost,cMost]at hQ
 have hnr:x.hdr.nr=x.regs.length:=rfl
 have h16:x.regs.length=16:=h.r1.regs
 obtain⟨w,gw⟩:∃w,x.regs[ka]?=some w:=⟨_,List.getElem?_eq_getElem (by omega)⟩
 rw[getR_at gw]
 refine fnA_of (fun h=>fn26 (by simp) h) ?_
 repeat' (first|(refine k_L ?_;(refine k_l ?_;first|refine a_l rfl (by exact rd_t (rd_h (rd_sl (fun _=>rfl) gw rfl))) ?_|refine g_l rfl ?_))|refine xx ?_|(refine k_L ?_;first|(refine k_q ?_;refine a_q rfl (fun m hm=>l5fine_q) ?_)|(refine k_c ?_;refine a_cq rfl (fun m hm=>actOk_t (b:=⟨14,ka,kb,kc,n⟩) hP) ?_))|fail)
 all_goals exact fa_r (fun _ _=>rfl) (Pm.ent pmt) ⟨rfl,rfl⟩
theorem do_15(h:Sound x.H)(hP:ActP ⟨15,ka,kb,kc,n⟩):FnA Tryz.prog 26 [ptr a,.agg #[.int .i64 15,.int .i64 ka,.int .i64 kb,.int .i64 kc,.int .i64 n]] (hp a x) (fun v As=>v=(if(x.H.getR ka).kind=1 then an 0 (x.H.getR ka).num else an 2 0)∧As=hp a x):=by
 have hQ:=hP
 simp[ActP,aMost,bMost,cMost]at hQ
 have hnr:x.hdr.nr=x.regs.length:=rfl
 have h16:x.regs.length=16:=h.r1.regs
 obtain⟨w,gw⟩:∃w,x.regs[ka]?=some w:=⟨_,List.getElem?_eq_getElem (by omega)⟩
 rw[getR_at gw]
 refine fnA_of (fun h=>fn26 (by simp) h) ?_
 by_cases hk:w.kind=1
 ·rw[if_pos hk]
  repeat' (first|(refine k_L ?_;(refine k_l ?_;first|refine a_l rfl (by exact rd_t (rd_h (rd_sl (fun _=>rfl) gw rfl))) ?_|refine g_l rfl ?_))|refine xx ?_|(refine xy ?_ ?_<;>intro hb<;>try(exfalso;omega))|(refine k_L ?_;(refine k_c ?_;refine a_cq rfl (fun m hm=>actOk_t (b:=⟨15,ka,kb,kc,n⟩) hP) ?_))|fail)
  all_goals exact fa_r (fun _ _=>rfl) (Pm.ent pmt) ⟨rfl,rfl⟩
 ·rw[if_neg hk]
  repeat' (first|(refine k_L ?_;(refine k_l ?_;first|refine a_l rfl (by exact rd_t (rd_h (rd_sl (fun _=>rfl) gw rfl))) ?_|refine g_l rfl ?_))|refine xx ?_|(refine xy ?_ ?_<;>intro hb<;>try(exfalso;omega))|(refine k_L ?_;(refine k_c ?_;first|refine a_cq rfl (fun m hm=>actOk_t (b:=⟨15,ka,kb,kc,n⟩) hP) ?_|refine a_cq rfl (fun m hm=>l5bad_q) ?_))|fail)
  all_goals exact fa_r (fun _ _=>rfl) (Pm.ent pmt) ⟨rfl,rfl⟩
end
theorem fna_rd{P:Program}{f:FuncId}{args:List Value}{Bs:List Asr}{v:Value}(h:∀m,star Bs m→FnA P f args [ro m] (fun u As=>u=v∧As=[ro m])):FnA P f args Bs (fun u As=>u=v∧As=Bs):=
 (fna_ro (q:=fun u E=>u=v∧E=[]) fun m hm=>(h m hm).mono fun u As hq=>⟨[],⟨hq.1,rfl⟩,hq.2⟩).mono fun u As hq=>by
   obtain⟨E,⟨h1,rfl⟩,h2⟩:=hq
   exact⟨h1,h2⟩
section
variable {a:Nat} {x:HX} {n:Int} {ka kb kc:Nat}
theorem do_18(h:Sound x.H)(hP:ActP ⟨18,ka,kb,kc,n⟩):FnA Tryz.prog 26 [ptr a,.agg #[.int .i64 18,.int .i64 ka,.int .i64 kb,.int .i64 kc,.int .i64 n]] (hp a x) (fun v As=>∃z:HX,v=an 0 (d2 x.H x.H.cells.length:Nat)∧As=hp a z∧z.H=x.H.settleH):=by
 refine fnA_of (fun h=>fn26 (by simp) h) ?_
 repeat' (first|refine xx ?_|(refine k_L ?_;first|(refine k_c ?_;first|refine a_cq rfl (fun m hm=>actOk_t (b:=⟨18,ka,kb,kc,n⟩) hP) ?_|refine a_cq rfl (fun m hm=>l5fine_q) ?_)|(refine g_c rfl (l4settle_a (x:=x) h) (fun v As' hq=>?_);obtain⟨z,rfl,rfl,hz⟩:=hq))|fail)
 all_goals exact fa_r (fun _ _=>rfl) (Pm.ent pmt) ⟨z,rfl,rfl,hz⟩
theorem do_19(h:Sound x.H)(hP:ActP ⟨19,ka,kb,kc,n⟩):FnA Tryz.prog 26 [ptr a,.agg #[.int .i64 19,.int .i64 ka,.int .i64 kb,.int .i64 kc,.int .i64 n]] (hp a x) (fun v As=>∃z:HX,v=an (doDue x.H ⟨19,ka,kb,kc,n⟩).code (doDue x.H ⟨19,ka,kb,kc,n⟩).num∧As=hp a z∧z.H=(doDue x.H ⟨19,ka,kb,kc,n⟩).heap):=by
 have hQ:=hP
 simp[ActP,aMost,bMost,cMost]at hQ
 refine fnA_of (fun h=>fn26 (by simp) h) ?_
 repeat' (first|refine xx ?_|(refine k_L ?_;first|(refine k_c ?_;refine a_cq rfl (fun m hm=>actOk_t (b:=⟨19,ka,kb,kc,n⟩) hP) ?_)|(refine g_c rfl (l5due_a (x:=x) (b:=⟨19,ka,kb,kc,n⟩) h (by simp;omega)) (fun v As' hq=>?_);obtain⟨z,rfl,rfl,hz⟩:=hq))|fail)
 all_goals exact fa_r (fun _ _=>rfl) (Pm.ent pmt) ⟨z,rfl,rfl,hz⟩
theorem do_20(h:Sound x.H)(hP:ActP ⟨20,ka,kb,kc,n⟩):FnA Tryz.prog 26 [ptr a,.agg #[.int .i64 20,.int .i64 ka,.int .i64 kb,.int .i64 kc,.int .i64 n]] (hp a x) (fun v As=>v=an 0 (sumT x.H (heldL x.H) x.H.cells.length)∧As=hp a x):=by
 refine fna_rd fun m hm=>?_
 have hh:Has m (hp a x):=⟨m,Mem.le_refl _,hm⟩
 refine fnA_of (fun h=>fn26 (by simp) h) ?_
 repeat' (first|refine xx ?_|(refine k_L ?_;first|(refine k_c ?_;first|refine a_cq rfl (fun m hm=>actOk_t (b:=⟨20,ka,kb,kc,n⟩) hP) ?_|refine a_cq rfl (fun m hm=>l5fine_q) ?_)|(refine g_c rfl (l2holds_a (x:=x) hh h.r1 h.r2 h.r4) (fun v As' hq=>?_);obtain⟨sd,rfl,rfl⟩:=hq)|(refine g_c rfl (l2sum_a (L:=heldL x.H) hh h.r1 h.r2 (by rw[heldL_len,x.len]) (fun i c hi hc=>by obtain⟨c',hc',hst,_⟩:=held_ok h.r2 h.r4 (heldL_at hi);rw[hc]at hc';cases hc';exact hst)) (fun v As' hq=>?_);obtain⟨rfl,rfl⟩:=hq))|fail)
 all_goals exact fa_r (As':=[ro m]) (fun _ _=>rfl) (Pm.ent pmt) ⟨by rw[x.len];rfl,rfl⟩
theorem do_21(h:Sound x.H)(hP:ActP ⟨21,ka,kb,kc,n⟩):FnA Tryz.prog 26 [ptr a,.agg #[.int .i64 21,.int .i64 ka,.int .i64 kb,.int .i64 kc,.int .i64 n]] (hp a x) (fun v As=>v=an 0 (sumT x.H (reachL x.H) x.H.cells.length)∧As=hp a x):=by
 refine fna_rd fun m hm=>?_
 have hh:Has m (hp a x):=⟨m,Mem.le_refl _,hm⟩
 refine fnA_of (fun h=>fn26 (by simp) h) ?_
 repeat' (first|refine xx ?_|(refine k_L ?_;first|(refine k_c ?_;first|refine a_cq rfl (fun m hm=>actOk_t (b:=⟨21,ka,kb,kc,n⟩) hP) ?_|refine a_cq rfl (fun m hm=>l5fine_q) ?_)|(refine g_c rfl (l2live_a (x:=x) hh h.r1 h.r2 h.r4) (fun v As' hq=>?_);obtain⟨rfl,rfl⟩:=hq))|fail)
 all_goals exact fa_r (As':=[ro m]) (fun _ _=>rfl) (Pm.ent pmt) ⟨by rw[x.len];rfl,rfl⟩
theorem do_22(h:Sound x.H)(hP:ActP ⟨22,ka,kb,kc,n⟩):FnA Tryz.prog 26 [ptr a,.agg #[.int .i64 22,.int .i64 ka,.int .i64 kb,.int .i64 kc,.int .i64 n]] (hp a x) (fun v As=>∃z:HX,v=an 0 0∧As=hp a z∧z.H=x.H.stepH kc):=by
 have hQ:=hP
 simp[ActP,aMost,bMost,cMost]at hQ
 refine fnA_of (fun h=>fn26 (by simp) h) ?_
 repeat' (first|refine xx ?_|(refine k_L ?_;first|(refine k_c ?_;first|refine a_cq rfl (fun m hm=>actOk_t (b:=⟨22,ka,kb,kc,n⟩) hP) ?_|refine a_cq rfl (fun m hm=>l5fine_q) ?_)|(refine g_c rfl (l3step_a (x:=x) (n:=(kc:Int)) h (by omega)) (fun v As' hq=>?_);obtain⟨z,rfl,rfl,hz⟩:=hq))|fail)
 all_goals exact fa_r (fun _ _=>rfl) (Pm.ent pmt) ⟨z,rfl,rfl,hz⟩
theorem do_23(h:Sound x.H)(hP:ActP ⟨23,ka,kb,kc,n⟩):FnA Tryz.prog 26 [ptr a,.agg #[.int .i64 23,.int .i64 ka,.int .i64 kb,.int .i64 kc,.int .i64 n]] (hp a x) (fun v As=>∃z:HX,v=an 0 0∧As=hp a z∧z.H={x.H with per:=kb,start:=kc}):=by
 refine fnA_of (fun h=>fn26 (by simp) h) ?_
 repeat' (first|refine xx ?_|(refine k_L ?_;(refine k_c ?_;first|refine a_cq rfl (fun m hm=>actOk_t (b:=⟨23,ka,kb,kc,n⟩) hP) ?_|refine a_cq rfl (fun m hm=>l5fine_q) ?_))|fail)
 all_goals exact fa_r (fun _ _=>rfl) (Pm.ent (fin ({x with per:=kb,start:=kc}:HX))) ⟨_,rfl,rfl,rfl⟩
theorem do_24(h:Sound x.H)(hP:ActP ⟨24,ka,kb,kc,n⟩):FnA Tryz.prog 26 [ptr a,.agg #[.int .i64 24,.int .i64 ka,.int .i64 kb,.int .i64 kc,.int .i64 n]] (hp a x) (fun v As=>∃z:HX,v=an 0 0∧As=hp a z∧z.H=x.H.roundH):=by
 refine fnA_of (fun h=>fn26 (by simp) h) ?_
 repeat' (first|refine xx ?_|(refine k_L ?_;first|(refine k_c ?_;first|refine a_cq rfl (fun m hm=>actOk_t (b:=⟨24,ka,kb,kc,n⟩) hP) ?_|refine a_cq rfl (fun m hm=>l5fine_q) ?_)|(refine g_c rfl (l3round_a (x:=x) h) (fun v As' hq=>?_);obtain⟨z,rfl,hz⟩:=hq))|fail)
 all_goals exact fa_r (fun _ _=>rfl) (Pm.ent pmt) ⟨z,rfl,rfl,hz⟩
end
theorem l5do_a{a:Nat}{x:HX}{b:Act}(h:Sound x.H):FnA Tryz.prog 26 [ptr a,actV b] (hp a x) (fun v As=>∃z:HX,v=an (actA x.H b).code (actA x.H b).num∧As=hp a z∧z.H=(actA x.H b).heap):=by
 obtain⟨op,aa,ab,ac,n⟩:=b
 unfold actA
 by_cases hP:ActP ⟨op,aa,ab,ac,n⟩
 ·rw[if_pos hP]
  have hP0:=hP
  obtain⟨⟨h1,h2⟩,h3,⟨h4,_⟩,⟨h5,_⟩,h6,_⟩:=hP0
  dsimp only at h1 h2 h4 h5 h6
  obtain⟨ka,rfl⟩:=Int.eq_ofNat_of_zero_le h4
  obtain⟨kb,rfl⟩:=Int.eq_ofNat_of_zero_le h5
  obtain⟨kc,rfl⟩:=Int.eq_ofNat_of_zero_le h6
  have ho:op=1∨op=2∨op=3∨op=4∨op=5∨op=6∨op=7∨op=8∨op=9∨op=10∨op=11∨op=12∨op=13∨op=14∨op=15∨op=16∨op=17∨op=18∨op=19∨op=20∨op=21∨op=22∨op=23∨op=24:=by omega
  rcases ho with rfl|rfl|rfl|rfl|rfl|rfl|rfl|rfl|rfl|rfl|rfl|rfl|rfl|rfl|rfl|rfl|rfl|rfl|rfl|rfl|rfl|rfl|rfl|rfl
  ·exact do_1 h hP
  ·exact do_2 h hP
  ·exact do_3 h hP
  ·exact do_4 h hP
  ·exact do_5 h hP
  ·exact do_6 h hP
  ·exact do_7 h hP
  ·exact do_8 h hP
  ·exact do_9 h hP
  ·exact do_10 h hP
  ·exact do_11 h hP
  ·exact do_12 h hP
  ·exact(do_13 h hP).mono fun v As hq=>⟨x,hq.1,hq.2,rfl⟩
  ·exact(do_14 h hP).mono fun v As hq=>⟨x,hq.1,hq.2,rfl⟩
  ·refine(do_15 h hP).mono fun v As hq=>⟨x,?_,hq.2,?_⟩
   ·rw[hq.1]
    show _=an (if(x.H.getR ka).kind=1 then(⟨x.H,0,(x.H.getR ka).num⟩:Out)else⟨x.H,2,0⟩).code (if(x.H.getR ka).kind=1 then(⟨x.H,0,(x.H.getR ka).num⟩:Out)else⟨x.H,2,0⟩).num
    split<;>rfl
   ·show x.H=(if(x.H.getR ka).kind=1 then(⟨x.H,0,(x.H.getR ka).num⟩:Out)else⟨x.H,2,0⟩).heap
    split<;>rfl
  ·exact do_16 h hP
  ·exact do_17 h hP
  ·exact do_18 h hP
  ·exact do_19 h hP
  ·exact(do_20 h hP).mono fun v As hq=>⟨x,hq.1,hq.2,rfl⟩
  ·exact(do_21 h hP).mono fun v As hq=>⟨x,hq.1,hq.2,rfl⟩
  ·exact do_22 h hP
  ·exact do_23 h hP
  ·exact do_24 h hP
 ·rw[if_neg hP]
  refine fnA_of (fun h=>fn26 (by simp) h) ?_
  repeat' (first|refine xx ?_|(refine k_L ?_;(refine k_c ?_;first|refine a_cq rfl (fun m hm=>qt_e (specActOk_q (a:=⟨op,aa,ab,ac,n⟩)) (congrArg Value.bool (decide_eq_false hP))) ?_|refine a_cq rfl (fun m hm=>l5bad_q) ?_))|fail)
  all_goals exact fa_r (fun _ _=>rfl) (Pm.ent pmt) ⟨x,rfl,rfl,rfl⟩
theorem out0{H:Heap}(h:Sound H):outN H=0↔H.phase=0:=by
 have:=out_phase h (j:=0) (by omega)
 constructor
 ·intro e;exact this.2 e.symm
 ·intro e;exact(this.1 e).symm
theorem begin_on{H:Heap}(hp:H.phase≠0):H.beginH=H:=by unfold Heap.beginH;rw[if_neg hp]
end Go.Proofs.YtpleoapljeffiaaGreatDoor.E
namespace Go.Proofs.YtpleoapljeffiaaGreatDoor.E
open Go
noncomputable def e165:Env:=⟨Tryz.prog,[1,4],30,[]⟩
noncomputable def c165:C:=
 .seq (.reg [zT 1 0,zC 2 0]) (.seq (.seq (.reg [z4 5 1 1,z5 6 1 5,zV 7 6]) (.cond (.tmp 7) (.seq (.reg [z4 8 0 1,z5 9 1 8,z6 10 9,z4 11 4 10,z5 12 1 11,zE 13 12,zC 14 0]) (.block 0 (.loop (.seq (.reg [zN 15 14 13]) (.seq (.cond (.tmp 15) .skip (.exit 0)) (.seq (.block 1 (.seq (.reg [z3 16 14,z8 17 8 12 14,z9 18 8 17,zX 4 0 0 0 0 0 0 0 0 0,z3 3 16,z7 8 4 18]) (.seq (.reg [z4 19 0 4,z5 20 1 19,
 zA 21 20 0]) (.cond (.tmp 21) (.seq (.reg [z3 22 3,z3 2 22]) .ret) .skip)))) (.reg [zG 23 14 1,z3 14 23]))))))) .skip)) (.seq (.reg [z4 24 0 1,z5 25 1 24,z6 26 25,z4 27 4 26,z5 28 1 27,zE 29 28,z3 2 29]) .ret))
theorem t165:Tryz.f165.body.bind (trC e165)=some c165:=by kernel_rfl
theorem r165:Tryz.f165.results.toList.mapM (trR Tryz.prog)=some [.tmp 2]:=by kernel_rfl
theorem fn165{args:List Value}{M:Mem}{post:Value→Mem→Prop}(hl:args.length≤30)(h:VC e165 c165 (fnQ [.tmp 2] post) (initS args 30) M):Fn Tryz.prog 165 args M post:=
 Fn.of' (E:=e165) Tryz.func165 t165 rfl r165 mixed hl h
noncomputable def e161:Env:=⟨Tryz.prog,[2],61,[(2,0),(3,13),(4,11),(6,13)]⟩
noncomputable def c161:C:=
 .seq (.reg [zT 2 0,zD 4]) (.seq (.seq (.reg [z4 5 1 2,z5 6 1 5]) (.cond (.tmp 6) (.seq (.hreg [2] [z4 7 0 2,z5 8 1 7,z4 9 0 2,z5 10 1 9,z3 13 1,z4 15 0 2,z5 16 1 15,z6 17 16,z4 18 0 17,z5 19 1 18] (.alt (zM 11 157 10) (.alt (zL 12 155 8 11) (.alt (q4 14 12 13) (.alt (qJ 20 14 19) (.alf (z3 4 20) (.done) (.none)) (.none)) (.none)) (.none)) (.none))) .ret) .skip)) (.seq (.seq (.dreg 13 [z4 21 0
 2,z5 22 1 21,z6 23 22,z4 24 1 23,z5 25 1 24,z3 26 1,q4 27 25 26,z4 28 0 2,z5 29 1 28,z6 30 29,z4 31 0 30,z5 32 1 31,⟨some 33,none,.bin .gtr (.tmp 27) (.tmp 32)⟩]) (.cond (.tmp 33) (.seq (.dreg 11 [z4 34 0 2,z5 35 1 34,z4 36 0 2,z5 37 1 36,z6 38 37,z4 39 12 38,z5 40 1 39,zG 41 40 1,⟨some 42,none,.min (.tmp 41) (.const (.int .i64 1000000000))⟩,z6 43 35,z4 44 12 43,z7 1 44 42]) (.reg [z4 45 0 2,z5
 46 1 45,zM 47 160 46])) .skip)) (.seq (.dreg 13 [z4 48 0 2,z5 49 1 48,z6 50 49,z4 51 1 50,z5 52 1 51,z3 53 1,q4 54 52 53,z4 55 0 2,z5 56 1 55,z6 57 56,z4 58 0 57,z5 59 1 58,qJ 60 54 59,z3 4 60]) .ret)))
theorem t161:Tryz.f161.body.bind (trC e161)=some c161:=by kernel_rfl
theorem r161:Tryz.f161.results.toList.mapM (trR Tryz.prog)=some [.tmp 4]:=by kernel_rfl
theorem fn161{args:List Value}{M:Mem}{post:Value→Mem→Prop}(hl:args.length≤61)(h:VC e161 c161 (fnQ [.tmp 4] post) (initS args 61) M):Fn Tryz.prog 161 args M post:=
 Fn.of' (E:=e161) Tryz.func161 t161 rfl r161 mixed hl h
noncomputable def e162:Env:=⟨Tryz.prog,[2],50,[(2,19),(4,9)]⟩
noncomputable def c162:C:=
 .seq (.reg [zT 2 0]) (.seq (.seq (.reg [z4 4 1 2,z5 5 1 4,z3 6 5,zQ 7 6 1,zt 8 6 7 0,zR 9 6 8,z3 10 9,zO 11 10 0 2,zP 12 10 1 11,za 13 10 12,zO 14 10 9 13,zP 15 10 1 14,zt 16 10 15 0,zR 17 10 16]) (.cond (.tmp 17) .ret .skip)) (.seq (.seq (.dreg 19 [z4 18 0 2,z5 19 1 18,z6 20 19,z4 21 5 20,z5 22 1 21,zA 23 22 0,z3 24 23,zI 25 24 0 2,zF 26 24 1 25,zU 27 24 26,zI 28 24 1 27,zF 29 24 1 28,zI 30
 24 0 2,zF 31 24 1 30,zU 32 24 31,zI 33 24 10 32,zF 34 24 1 33,⟨some 35,some (24,true),.bin .gtr (.tmp 29) (.tmp 34)⟩,zK 36 24 35]) (.cond (.tmp 36) (.reg [z4 37 0 2,z5 38 1 37,zM 39 158 38]) .skip)) (.dreg 9 [z4 40 0 2,z5 41 1 40,z4 42 0 2,z5 43 1 42,z6 44 43,z4 45 9 44,z5 46 1 45,z3 47 1,⟨some 48,none,.bin .mul (.tmp 46) (.tmp 47)⟩,zL 49 159 41 48])))
theorem t162:Tryz.f162.body.bind (trC e162)=some c162:=by kernel_rfl
theorem r162:Tryz.f162.results.toList.mapM (trR Tryz.prog)=some []:=by kernel_rfl
theorem fn162{args:List Value}{M:Mem}{post:Value→Mem→Prop}(hl:args.length≤50)(h:VC e162 c162 (fnQ [] post) (initS args 50) M):Fn Tryz.prog 162 args M post:=
 Fn.of' (E:=e162) Tryz.func162 t162 rfl r162 mixed hl h
noncomputable def e129:Env:=⟨Tryz.prog,[3],65,[(3,15),(6,15)]⟩
noncomputable def c129:C:=
 .seq (.reg [zT 3 0]) (.seq (.reg [z4 7 0 3,z5 8 1 7,z6 9 8,z4 10 4 9,z5 11 1 10,z3 12 1,z8 13 8 11 12,z3 6 13]) (.seq (.seq (.reg [z3 14 2,z3 15 6,z6 16 15,z4 17 7 16,z5 18 1 17,zE 19 18,zN 20 14 19]) (.cond (.tmp 20) (.seq (.dreg 15 [z4 21 0 3,z5 22 1 21,z6 23 22,z4 24 1 23,z5 25 1 24,z3 26 6,z6 27 26,z4 28 7 27,z5 29 1 28,zE 30 29,z3 31 2,qF 32 30 31,qF 33 25 32,z6 34 22,z4 35 1 34,z7 1 35
 33]) (.reg [z3 36 6,z3 37 6,z6 38 37,z4 39 7 38,z5 40 1 39,z3 41 2,qc 42 6 40 41,z6 43 36,z4 44 7 43,z7 1 44 42])) .skip)) (.seq (.reg [z3 45 1,z4 46 0 3,z5 47 1 46,zM 48 163 47,zy 49 45 48]) (.cond (.tmp 49) (.dreg 15 [z4 50 0 3,z5 51 1 50,z4 52 0 3,z5 53 1 52,z6 54 53,z4 55 7 54,z5 56 1 55,z3 57 6,z6 58 57,z4 59 7 58,z5 60 1 59,zE 61 60,⟨some 62,none,.min (.tmp 56) (.tmp 61)⟩,z6 63 51,z4 64
 7 63,z7 1 64 62]) .skip))))
theorem t129:Tryz.f129.body.bind (trC e129)=some c129:=by kernel_rfl
theorem r129:Tryz.f129.results.toList.mapM (trR Tryz.prog)=some []:=by kernel_rfl
theorem fn129{args:List Value}{M:Mem}{post:Value→Mem→Prop}(hl:args.length≤65)(h:VC e129 c129 (fnQ [] post) (initS args 65) M):Fn Tryz.prog 129 args M post:=
 Fn.of' (E:=e129) Tryz.func129 t129 rfl r129 mixed hl h
noncomputable def e83:Env:=⟨Tryz.prog,[2],5,[]⟩
noncomputable def c83:C:=
 .seq (.reg [zq 2 0 0]) (.seq (.reg [z3 3 0,qf 4 0 0 0 1 3,z7 2 2 4]) .ret)
theorem t83:Tryz.f83.body.bind (trC e83)=some c83:=by kernel_rfl
theorem r83:Tryz.f83.results.toList.mapM (trR Tryz.prog)=some [.cell 2 false 2]:=by kernel_rfl
theorem fn83{args:List Value}{M:Mem}{post:Value→Mem→Prop}(hl:args.length≤5)(h:VC e83 c83 (fnQ [.cell 2 false 2] post) (initS args 5) M):Fn Tryz.prog 83 args M post:=
 Fn.of' (E:=e83) Tryz.func83 t83 rfl r83 mixed hl h
noncomputable def e131:Env:=⟨Tryz.prog,[2],5,[]⟩
noncomputable def c131:C:=
 .seq (.reg [zq 2 0 0]) (.seq (.reg [z3 3 0,qf 4 0 0 1 1 3,z7 2 2 4]) .ret)
theorem t131:Tryz.f131.body.bind (trC e131)=some c131:=by kernel_rfl
theorem r131:Tryz.f131.results.toList.mapM (trR Tryz.prog)=some [.cell 2 false 2]:=by kernel_rfl
theorem fn131{args:List Value}{M:Mem}{post:Value→Mem→Prop}(hl:args.length≤5)(h:VC e131 c131 (fnQ [.cell 2 false 2] post) (initS args 5) M):Fn Tryz.prog 131 args M post:=
 Fn.of' (E:=e131) Tryz.func131 t131 rfl r131 mixed hl h
end Go.Proofs.YtpleoapljeffiaaGreatDoor.E
namespace Go.Proofs.YtpleoapljeffiaaGreatDoor.E
open Go
open Classical
def eV(a:Nat):Value:=.agg #[ptr a,.bool false]
theorem codeE_q{m:Mem}{n:Int}:Qt Tryz.prog 83 [.int .i64 n] m (an n 0):=by
 refine qt_of (fnA_of (fun h=>fn83 (by simp) h) ?_)
 repeat' (first|refine xx ?_|fail)
 exact fa_q (by simp) (fun _ _=>rfl) rfl
theorem numE_q{m:Mem}{n:Int}:Qt Tryz.prog 131 [.int .i64 n] m (an 0 n):=by
 refine qt_of (fnA_of (fun h=>fn131 (by simp) h) ?_)
 repeat' (first|refine xx ?_|fail)
 exact fa_q (by simp) (fun _ _=>rfl) rfl
theorem fits_a{a:Nat}{x:HX}{u:Int}(h:Sound x.H)(hu:0≤u∧u≤201):FnA Tryz.prog 161 [eV a,.int .i64 u] (hp a x) (fun v As=>∃z:HX,v=.bool (decide ((x.H.fitsH u).used+u≤(x.H.fitsH u).room))∧As=hp a z∧z.H=x.H.fitsH u):=by
 refine fnA_of (fun h=>fn161 (by simp) h) ?_
 have e1:x.hdr.used=x.H.used:=rfl
 have e2:x.hdr.room=x.H.room:=rfl
 have e3:x.hdr.forced=x.H.forced:=rfl
 have h1:=h.r1.room
 have h2:=h.r3.2
 have h3:=h.r1.forced
 have h4:0≤x.H.used:=by have:=h.r3.1;have:=unitsN_nn x.H.cells;omega
 by_cases hf:x.H.used+u≤x.H.room
 ·have e:x.H.fitsH u=x.H:=by unfold Heap.fitsH;rw[if_pos hf]
  rw[e]
  repeat' (first|refine xx ?_|(refine xy ?_ ?_<;>intro hb<;>try(exfalso;omega))|fail)
  exact fa_r (fun _ _=>rfl) (Pm.ent pmt) ⟨x,by simp[hf,e1,e2],rfl,rfl⟩
 ·have fr:∀n:Int,(x.frc n).H={x.H with forced:=n}:=fun n=>rfl
  have end_:∀(z:HX) (F:Heap),z.H=F→(z.hdr.used+u≤z.hdr.room↔F.used+u≤F.room):=fun z F e=>by rw[←e];exact Iff.rfl
  have e:x.H.fitsH u=(x.frc (if(1000000000:Int)<x.H.forced+1 then 1000000000 else x.H.forced+1)).H.roundH:=by
   unfold Heap.fitsH;rw[if_neg hf,fr]
   congr 2
   split<;>split<;>omega
  have eb:(if(1000000000:Int)<x.H.forced+1 then(1000000000:Int)else x.H.forced+1)≤1000000000∧0≤(if(1000000000:Int)<x.H.forced+1 then(1000000000:Int)else x.H.forced+1):=by split<;>omega
  rw[e]
  have sS:Sound (x.frc (if(1000000000:Int)<x.H.forced+1 then 1000000000 else x.H.forced+1)).H:=by rw[fr];exact forced_sound h ⟨eb.2,eb.1⟩
  repeat' (first|refine xx ?_|(refine xy ?_ ?_<;>intro hb<;>try(exfalso;omega))|(refine k_L ?_;(refine g_c rfl (round_a (x:=x.frc (if(1000000000:Int)<x.H.forced+1 then 1000000000 else x.H.forced+1)) sS) (fun v As' hq=>?_);obtain⟨z,rfl,hz⟩:=hq;have zb:=used_b (z:=z) (by rw[hz];exact(roundH_ok sS).1)))|fail)
  all_goals exact fa_r (fun _ _=>rfl) (Pm.ent pmt) ⟨z,by congr 1;rw[Bool.eq_iff_iff];simp only[decide_eq_true_eq];exact end_ z _ hz,rfl,hz⟩
theorem step_idle{H:Heap}(h:Sound H)(hp:H.phase=0)(k:Nat):iterU (min k (outN H)) H=H:=by
 rw[(out0 h).2 hp,Nat.min_zero];rfl
theorem step_busy{H:Heap}(hp:H.phase≠0){n:Int}(hn:n≠0):iterU (min n.toNat (outN H)) H=H.stepH n:=by
 unfold Heap.stepH stepN
 rw[if_neg hn,begin_on hp,if_neg hn]
theorem pace_a{a:Nat}{x:HX}{u:Int}(h:Sound x.H)(hu:0≤u∧u≤201):FnA Tryz.prog 162 [eV a,.int .i64 u] (hp a x) (fun v As=>∃z:HX,As=hp a z∧z.H=x.H.paceH u):=by
 refine fnA_of (fun h=>fn162 (by simp) h) ?_
 have e1:x.hdr.used=x.H.used:=rfl
 have e2:x.hdr.per=x.H.per:=rfl
 have e3:x.hdr.start=x.H.start:=rfl
 have e4:x.hdr.phase=x.H.phase:=rfl
 have h1:=h.r1.per
 have hm:0≤x.H.per*u∧x.H.per*u≤64*201:=⟨Int.mul_nonneg h1.1 hu.1,Int.mul_le_mul h1.2 hu.2 hu.1 (by omega)⟩
 unfold Heap.paceH
 by_cases c1:x.H.per=0∨u=0
 ·rw[if_pos c1]
  repeat' (first|refine xx ?_|(refine xy ?_ ?_<;>intro hb<;>try(exfalso;omega))|fail)
  all_goals first
   |exact fa_n (fun _ _=>rfl) (Pm.ent pmt) ⟨x,rfl,rfl⟩
   |exact fa_r (fun _ _=>rfl) (Pm.ent pmt) ⟨x,rfl,rfl⟩
   |(exfalso;omega)
 ·rw[if_neg c1]
  have c2:¬x.H.per=0:=fun e=>c1 (.inl e)
  have c3:¬u=0:=fun e=>c1 (.inr e)
  have hn:x.H.per*u≠0:=fun e=>by
   rcases Int.mul_eq_zero.1 e with e|e
   ·exact c2 e
   ·exact c3 e
  by_cases c4:x.H.phase=0
  ·by_cases c5:x.H.used≤x.H.start
   ·rw[if_pos ⟨c4,c5⟩]
    repeat' (first|refine xx ?_|(refine xy ?_ ?_<;>intro hb<;>try(exfalso;omega))|(refine k_L ?_;(refine g_c rfl (step_a (x:=x) (n:=x.H.per*u) h (by omega)) (fun v As' hq=>?_);obtain⟨z,rfl,rfl,hz⟩:=hq))|fail)
    all_goals first
     |exact fa_n (fun _ _=>rfl) (Pm.ent pmt) ⟨z,rfl,by rw[hz,step_idle h c4]⟩
     |(exfalso;omega)
   ·rw[if_neg (fun e=>c5 e.2)]
    have pb:x.begin.H=x.H.enterH 1:=by rw[begin_H];unfold Heap.beginH;rw[if_pos c4]
    have hsb:Sound x.begin.H:=by rw[pb];exact begin_sound h c4
    have pp:x.begin.hdr.per=x.H.per:=by show x.begin.H.per=_;rw[pb];rfl
    have hm2:0≤x.begin.hdr.per*u∧x.begin.hdr.per*u≤64*201:=by rw[pp];exact hm
    repeat' (first|refine xx ?_|(refine xy ?_ ?_<;>intro hb<;>try(exfalso;omega))|(refine k_L ?_;(refine g_c rfl (begin_a (x:=x)) (fun v As' hq=>?_);subst hq))|fail)
    refine g_c rfl (step_a (x:=x.begin) (n:=x.begin.hdr.per*u) hsb (by rw[pp];omega)) (fun v As' hq=>?_)
    obtain⟨z,rfl,rfl,hz⟩:=hq
    repeat' (first|refine xx ?_|(refine xy ?_ ?_<;>intro hb<;>try(exfalso;omega))|fail)
    exact fa_n (fun _ _=>rfl) (Pm.ent pmt) ⟨z,rfl,by rw[hz,pp,step_busy (by rw[pb];show(1:Int)≠0;omega) hn,pb];exact step_begun c4 hn⟩
  ·rw[if_neg (fun e=>c4 e.1)]
   repeat' (first|refine xx ?_|(refine xy ?_ ?_<;>intro hb<;>try(exfalso;omega))|(refine k_L ?_;(refine g_c rfl (step_a (x:=x) (n:=x.H.per*u) h (by omega)) (fun v As' hq=>?_);obtain⟨z,rfl,rfl,hz⟩:=hq))|fail)
   all_goals exact fa_n (fun _ _=>rfl) (Pm.ent pmt) ⟨z,rfl,by rw[hz];exact step_busy c4 hn⟩
end Go.Proofs.YtpleoapljeffiaaGreatDoor.E
