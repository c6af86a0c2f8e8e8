/- A part of the proof. Conditions: none. -/
import Derived.Test.YtcjmodomfilagaaGreatKI19
set_option linter.unusedVariables false
set_option linter.unusedSimpArgs false
set_option maxHeartbeats 8000000
set_option maxRecDepth 100000
namespace Go.Proofs.YtcjmodomfilagaaGreat.E
open Go
open Classical
theorem fna_rd{P:Program}{f:FuncId}{args:List Value}{Bs:List Asr}{v:Value}(h:∀m,star Bs m→FnA P f args [ro m] (fun u As=>u=v∧As=[ro m])):FnA P f args Bs (fun u As=>u=v∧As=Bs):=
 (fna_ro (q:=fun u E=>u=v∧E=[]) fun m hm=>(h m hm).mono fun u As hq=>⟨[],⟨hq.1,rfl⟩,hq.2⟩).mono fun u As hq=>by
   obtain⟨E,⟨h1,rfl⟩,h2⟩:=hq
   exact⟨h1,h2⟩
section
variable {a:Nat} {x:HX} {n:Int} {ka kb kc:Nat}
theorem do_18(h:Sound x.H)(hP:ActP ⟨18,ka,kb,kc,n⟩):FnA Tryz.prog 130 [ptr a,.agg #[.int .i64 18,.int .i64 ka,.int .i64 kb,.int .i64 kc,.int .i64 n]] (hp a x) (fun v As=>∃z:HX,v=an 0 (d2 x.H x.H.cells.length:Nat)∧As=hp a z∧z.H=x.H.settleH):=by
 refine fnA_of (fun h=>fn130 (by simp) h) ?_
 repeat' (first
  |(refine k_L ?_;first|refine a_p rfl ?_|(refine k_st ?_;refine g_sw rfl rfl rfl rfl (Nat.le_of_ble_eq_true rfl) ?_)|(refine k_al ?_;refine a_al ?_)|(refine k_bx ?_;refine a_bx rfl rfl ?_)|(refine k_c ?_;first|refine a_cq rfl (fun m hm=>actOk_t (b:=⟨18,ka,kb,kc,n⟩) hP) ?_|refine a_cq rfl (fun m hm=>l5fine_q) ?_)|(refine g_c rfl (l4settle_a (x:=x) h) (fun v As' hq=>?_);obtain⟨z,rfl,rfl,hz⟩:=hq))
  |refine a_n ?_
  |(refine k_V ?_;first|refine v_seq ?_|refine v_reg ?_|refine v_bs ?_|refine v_ret ?_|refine v_skip ?_|refine v_ct rfl ?_|refine v_cf rfl ?_)
  |refine s_r ?_
  |refine b_r ?_
  |refine sk_zero ?_
  |refine sk_succ ?_
  |refine wk_nil ?_
  |refine wk_cons ?_)
 all_goals exact fa_r (fun _ _=>rfl) (Pm.ent pmt) ⟨z,rfl,rfl,hz⟩
theorem do_19(h:Sound x.H)(hP:ActP ⟨19,ka,kb,kc,n⟩):FnA Tryz.prog 130 [ptr a,.agg #[.int .i64 19,.int .i64 ka,.int .i64 kb,.int .i64 kc,.int .i64 n]] (hp a x) (fun v As=>∃z:HX,v=an (doDue x.H ⟨19,ka,kb,kc,n⟩).code (doDue x.H ⟨19,ka,kb,kc,n⟩).num∧As=hp a z∧z.H=(doDue x.H ⟨19,ka,kb,kc,n⟩).heap):=by
 have hQ:=hP
 simp[ActP,aMost,bMost,cMost]at hQ
 refine fnA_of (fun h=>fn130 (by simp) h) ?_
 repeat' (first
  |(refine k_L ?_;first|refine a_p rfl ?_|(refine k_st ?_;refine g_sw rfl rfl rfl rfl (Nat.le_of_ble_eq_true rfl) ?_)|(refine k_al ?_;refine a_al ?_)|(refine k_bx ?_;refine a_bx rfl rfl ?_)|(refine k_c ?_;refine a_cq rfl (fun m hm=>actOk_t (b:=⟨19,ka,kb,kc,n⟩) hP) ?_)|(refine g_c rfl (l5due_a (x:=x) (b:=⟨19,ka,kb,kc,n⟩) h (by simp;omega)) (fun v As' hq=>?_);obtain⟨z,rfl,rfl,hz⟩:=hq))
  |refine a_n ?_
  |(refine k_V ?_;first|refine v_seq ?_|refine v_reg ?_|refine v_bs ?_|refine v_ret ?_|refine v_skip ?_|refine v_ct rfl ?_|refine v_cf rfl ?_)
  |refine s_r ?_
  |refine b_r ?_
  |refine sk_zero ?_
  |refine sk_succ ?_
  |refine wk_nil ?_
  |refine wk_cons ?_)
 all_goals exact fa_r (fun _ _=>rfl) (Pm.ent pmt) ⟨z,rfl,rfl,hz⟩
theorem do_20(h:Sound x.H)(hP:ActP ⟨20,ka,kb,kc,n⟩):FnA Tryz.prog 130 [ptr a,.agg #[.int .i64 20,.int .i64 ka,.int .i64 kb,.int .i64 kc,.int .i64 n]] (hp a x) (fun v As=>v=an 0 (sumT x.H (heldL x.H) x.H.cells.length)∧As=hp a x):=by
 refine fna_rd fun m hm=>?_
 have hh:Has m (hp a x):=⟨m,Mem.le_refl _,hm⟩
 refine fnA_of (fun h=>fn130 (by simp) h) ?_
 repeat' (first
  |(refine k_L ?_;first|refine a_p rfl ?_|(refine k_st ?_;refine g_sw rfl rfl rfl rfl (Nat.le_of_ble_eq_true rfl) ?_)|(refine k_al ?_;refine a_al ?_)|(refine k_bx ?_;refine a_bx rfl rfl ?_)|(refine k_c ?_;first|refine a_cq rfl (fun m hm=>actOk_t (b:=⟨20,ka,kb,kc,n⟩) hP) ?_|refine a_cq rfl (fun m hm=>l5fine_q) ?_)|(refine g_c rfl (l2holds_a (x:=x) hh h.r1 h.r2 h.r4) (fun v As' hq=>?_);obtain⟨sd,rfl,rfl⟩:=hq)|(refine g_c rfl (l2sum_a (L:=heldL x.H) hh h.r1 h.r2 (by rw[heldL_len,x.len]) (fun i c hi hc=>by obtain⟨c',hc',hst,_⟩:=held_ok h.r2 h.r4 (heldL_at hi);rw[hc]at hc';cases hc';exact hst)) (fun v As' hq=>?_);obtain⟨rfl,rfl⟩:=hq))
  |refine a_n ?_
  |(refine k_V ?_;first|refine v_seq ?_|refine v_reg ?_|refine v_bs ?_|refine v_ret ?_|refine v_skip ?_|refine v_ct rfl ?_|refine v_cf rfl ?_)
  |refine s_r ?_
  |refine b_r ?_
  |refine sk_zero ?_
  |refine sk_succ ?_
  |refine wk_nil ?_
  |refine wk_cons ?_)
 all_goals exact fa_r (As':=[ro m]) (fun _ _=>rfl) (Pm.ent pmt) ⟨by rw[x.len];rfl,rfl⟩
theorem do_21(h:Sound x.H)(hP:ActP ⟨21,ka,kb,kc,n⟩):FnA Tryz.prog 130 [ptr a,.agg #[.int .i64 21,.int .i64 ka,.int .i64 kb,.int .i64 kc,.int .i64 n]] (hp a x) (fun v As=>v=an 0 (sumT x.H (reachL x.H) x.H.cells.length)∧As=hp a x):=by
 refine fna_rd fun m hm=>?_
 have hh:Has m (hp a x):=⟨m,Mem.le_refl _,hm⟩
 refine fnA_of (fun h=>fn130 (by simp) h) ?_
 repeat' (first
  |(refine k_L ?_;first|refine a_p rfl ?_|(refine k_st ?_;refine g_sw rfl rfl rfl rfl (Nat.le_of_ble_eq_true rfl) ?_)|(refine k_al ?_;refine a_al ?_)|(refine k_bx ?_;refine a_bx rfl rfl ?_)|(refine k_c ?_;first|refine a_cq rfl (fun m hm=>actOk_t (b:=⟨21,ka,kb,kc,n⟩) hP) ?_|refine a_cq rfl (fun m hm=>l5fine_q) ?_)|(refine g_c rfl (l2live_a (x:=x) hh h.r1 h.r2 h.r4) (fun v As' hq=>?_);obtain⟨rfl,rfl⟩:=hq))
  |refine a_n ?_
  |(refine k_V ?_;first|refine v_seq ?_|refine v_reg ?_|refine v_bs ?_|refine v_ret ?_|refine v_skip ?_|refine v_ct rfl ?_|refine v_cf rfl ?_)
  |refine s_r ?_
  |refine b_r ?_
  |refine sk_zero ?_
  |refine sk_succ ?_
  |refine wk_nil ?_
  |refine wk_cons ?_)
 all_goals exact fa_r (As':=[ro m]) (fun _ _=>rfl) (Pm.ent pmt) ⟨by rw[x.len];rfl,rfl⟩
theorem do_22(h:Sound x.H)(hP:ActP ⟨22,ka,kb,kc,n⟩):FnA Tryz.prog 130 [ptr a,.agg #[.int .i64 22,.int .i64 ka,.int .i64 kb,.int .i64 kc,.int .i64 n]] (hp a x) (fun v As=>∃z:HX,v=an 0 0∧As=hp a z∧z.H=x.H.stepH kc):=by
 have hQ:=hP
 simp[ActP,aMost,bMost,cMost]at hQ
 refine fnA_of (fun h=>fn130 (by simp) h) ?_
 repeat' (first
  |(refine k_L ?_;first|refine a_p rfl ?_|(refine k_st ?_;refine g_sw rfl rfl rfl rfl (Nat.le_of_ble_eq_true rfl) ?_)|(refine k_al ?_;refine a_al ?_)|(refine k_bx ?_;refine a_bx rfl rfl ?_)|(refine k_c ?_;first|refine a_cq rfl (fun m hm=>actOk_t (b:=⟨22,ka,kb,kc,n⟩) hP) ?_|refine a_cq rfl (fun m hm=>l5fine_q) ?_)|(refine g_c rfl (l3step_a (x:=x) (n:=(kc:Int)) h (by omega)) (fun v As' hq=>?_);obtain⟨z,rfl,rfl,hz⟩:=hq))
  |refine a_n ?_
  |(refine k_V ?_;first|refine v_seq ?_|refine v_reg ?_|refine v_bs ?_|refine v_ret ?_|refine v_skip ?_|refine v_ct rfl ?_|refine v_cf rfl ?_)
  |refine sk_zero ?_
  |refine sk_succ ?_
  |refine wk_nil ?_
  |refine wk_cons ?_)
 all_goals exact fa_r (fun _ _=>rfl) (Pm.ent pmt) ⟨z,rfl,rfl,hz⟩
theorem do_23(h:Sound x.H)(hP:ActP ⟨23,ka,kb,kc,n⟩):FnA Tryz.prog 130 [ptr a,.agg #[.int .i64 23,.int .i64 ka,.int .i64 kb,.int .i64 kc,.int .i64 n]] (hp a x) (fun v As=>∃z:HX,v=an 0 0∧As=hp a z∧z.H={x.H with per:=kb,start:=kc}):=by
 refine fnA_of (fun h=>fn130 (by simp) h) ?_
 repeat' (first
  |(refine k_L ?_;first|refine a_p rfl ?_|(refine k_st ?_;first|refine g_st rfl rfl rfl rfl ?_|refine g_sw rfl rfl rfl rfl (Nat.le_of_ble_eq_true rfl) ?_)|(refine k_al ?_;refine a_al ?_)|(refine k_bx ?_;refine a_bx rfl rfl ?_)|(refine k_c ?_;first|refine a_cq rfl (fun m hm=>actOk_t (b:=⟨23,ka,kb,kc,n⟩) hP) ?_|refine a_cq rfl (fun m hm=>l5fine_q) ?_))
  |refine a_n ?_
  |(refine k_V ?_;first|refine v_seq ?_|refine v_reg ?_|refine v_bs ?_|refine v_ret ?_|refine v_skip ?_|refine v_ct rfl ?_|refine v_cf rfl ?_)
  |refine sk_zero ?_
  |refine sk_succ ?_
  |refine wk_nil ?_
  |refine wk_cons ?_)
 all_goals exact fa_r (fun _ _=>rfl) (Pm.ent (fin ({x with per:=kb,start:=kc}:HX))) ⟨_,rfl,rfl,rfl⟩
theorem do_24(h:Sound x.H)(hP:ActP ⟨24,ka,kb,kc,n⟩):FnA Tryz.prog 130 [ptr a,.agg #[.int .i64 24,.int .i64 ka,.int .i64 kb,.int .i64 kc,.int .i64 n]] (hp a x) (fun v As=>∃z:HX,v=an 0 0∧As=hp a z∧z.H=x.H.roundH):=by
 refine fnA_of (fun h=>fn130 (by simp) h) ?_
 repeat' (first
  |(refine k_L ?_;first|refine a_p rfl ?_|(refine k_st ?_;refine g_sw rfl rfl rfl rfl (Nat.le_of_ble_eq_true rfl) ?_)|(refine k_al ?_;refine a_al ?_)|(refine k_bx ?_;refine a_bx rfl rfl ?_)|(refine k_c ?_;first|refine a_cq rfl (fun m hm=>actOk_t (b:=⟨24,ka,kb,kc,n⟩) hP) ?_|refine a_cq rfl (fun m hm=>l5fine_q) ?_)|(refine g_c rfl (l3round_a (x:=x) h) (fun v As' hq=>?_);obtain⟨z,rfl,hz⟩:=hq))
  |refine a_n ?_
  |(refine k_V ?_;first|refine v_seq ?_|refine v_reg ?_|refine v_bs ?_|refine v_ret ?_|refine v_skip ?_|refine v_ct rfl ?_|refine v_cf rfl ?_)
  |refine sk_zero ?_
  |refine sk_succ ?_
  |refine wk_nil ?_
  |refine wk_cons ?_)
 all_goals exact fa_r (fun _ _=>rfl) (Pm.ent pmt) ⟨z,rfl,rfl,hz⟩
end
theorem l5do_a{a:Nat}{x:HX}{b:Act}(h:Sound x.H):FnA Tryz.prog 130 [ptr a,actV b] (hp a x) (fun v As=>∃z:HX,v=an (actA x.H b).code (actA x.H b).num∧As=hp a z∧z.H=(actA x.H b).heap):=by
 obtain⟨op,aa,ab,ac,n⟩:=b
 unfold actA
 by_cases hP:ActP ⟨op,aa,ab,ac,n⟩
 ·rw[if_pos hP]
  have hP0:=hP
  obtain⟨⟨h1,h2⟩,h3,⟨h4,_⟩,⟨h5,_⟩,h6,_⟩:=hP0
  dsimp only at h1 h2 h4 h5 h6
  obtain⟨ka,rfl⟩:=Int.eq_ofNat_of_zero_le h4
  obtain⟨kb,rfl⟩:=Int.eq_ofNat_of_zero_le h5
  obtain⟨kc,rfl⟩:=Int.eq_ofNat_of_zero_le h6
  have ho:op=1∨op=2∨op=3∨op=4∨op=5∨op=6∨op=7∨op=8∨op=9∨op=10∨op=11∨op=12∨op=13∨op=14∨op=15∨op=16∨op=17∨op=18∨op=19∨op=20∨op=21∨op=22∨op=23∨op=24:=by omega
  rcases ho with rfl|rfl|rfl|rfl|rfl|rfl|rfl|rfl|rfl|rfl|rfl|rfl|rfl|rfl|rfl|rfl|rfl|rfl|rfl|rfl|rfl|rfl|rfl|rfl
  ·exact do_1 h hP
  ·exact do_2 h hP
  ·exact do_3 h hP
  ·exact do_4 h hP
  ·exact do_5 h hP
  ·exact do_6 h hP
  ·exact do_7 h hP
  ·exact do_8 h hP
  ·exact do_9 h hP
  ·exact do_10 h hP
  ·exact do_11 h hP
  ·exact do_12 h hP
  ·exact(do_13 h hP).mono fun v As hq=>⟨x,hq.1,hq.2,rfl⟩
  ·exact(do_14 h hP).mono fun v As hq=>⟨x,hq.1,hq.2,rfl⟩
  ·refine(do_15 h hP).mono fun v As hq=>⟨x,?_,hq.2,?_⟩
   ·rw[hq.1]
    show _=an (if(x.H.getR ka).kind=1 then(⟨x.H,0,(x.H.getR ka).num⟩:Out)else⟨x.H,2,0⟩).code (if(x.H.getR ka).kind=1 then(⟨x.H,0,(x.H.getR ka).num⟩:Out)else⟨x.H,2,0⟩).num
    split<;>rfl
   ·show x.H=(if(x.H.getR ka).kind=1 then(⟨x.H,0,(x.H.getR ka).num⟩:Out)else⟨x.H,2,0⟩).heap
    split<;>rfl
  ·exact do_16 h hP
  ·exact do_17 h hP
  ·exact do_18 h hP
  ·exact do_19 h hP
  ·exact(do_20 h hP).mono fun v As hq=>⟨x,hq.1,hq.2,rfl⟩
  ·exact(do_21 h hP).mono fun v As hq=>⟨x,hq.1,hq.2,rfl⟩
  ·exact do_22 h hP
  ·exact do_23 h hP
  ·exact do_24 h hP
 ·rw[if_neg hP]
  refine fnA_of (fun h=>fn130 (by simp) h) ?_
  repeat' (first
   |(refine k_L ?_;first|refine a_p rfl ?_|(refine k_st ?_;refine g_sw rfl rfl rfl rfl (Nat.le_of_ble_eq_true rfl) ?_)|(refine k_al ?_;refine a_al ?_)|(refine k_bx ?_;refine a_bx rfl rfl ?_)|(refine k_c ?_;first|refine a_cq rfl (fun m hm=>qt_e (specActOk_q (a:=⟨op,aa,ab,ac,n⟩)) (congrArg Value.bool (decide_eq_false hP))) ?_|refine a_cq rfl (fun m hm=>l5bad_q) ?_))
   |refine a_n ?_
   |(refine k_V ?_;first|refine v_seq ?_|refine v_reg ?_|refine v_ret ?_|refine v_ct rfl ?_)
   |refine s_r ?_
   |refine sk_zero ?_
   |refine sk_succ ?_
   |refine wk_nil ?_
   |refine wk_cons ?_)
  all_goals exact fa_r (fun _ _=>rfl) (Pm.ent pmt) ⟨x,rfl,rfl,rfl⟩
end Go.Proofs.YtcjmodomfilagaaGreat.E
namespace Go.Proofs.YtcjmodomfilagaaGreat.E
open Go
noncomputable def e93:Env:=⟨Tryz.prog,[],68,[(1,10),(2,10)]⟩
abbrev zT(a0:Nat)(a1:Nat)(a2:Nat)(a3:Int):I:=⟨some a0,none,.call a1 [.tmp a2,.const (.int .i64 a3)]⟩
abbrev zc(a0:Nat)(a1:Nat)(a2:Nat)(a3:Int)(a4:Int)(a5:Int)(a6:Int):I:=⟨some a0,none,.call a1 [.tmp a2,.const (.int .i64 a3),.const (.int .i64 a4),.const (.int .i64 a5),.const (.int .i64 a6)]⟩
abbrev qI(a0:Nat)(a1:Nat)(a2:Nat)(a3:Int)(a4:Int)(a5:Int)(a6:Nat):I:=⟨some a0,none,.call a1 [.tmp a2,.const (.int .i64 a3),.const (.int .i64 a4),.const (.int .i64 a5),.tmp a6]⟩
abbrev qe(a0:Nat)(a1:Nat)(a2:Nat)(a3:Int)(a4:Nat)(a5:Int)(a6:Nat):I:=⟨some a0,none,.call a1 [.tmp a2,.const (.int .i64 a3),.tmp a4,.const (.int .i64 a5),.tmp a6]⟩
abbrev ql(a0:Nat)(a1:Nat)(a2:Nat)(a3:Int)(a4:Nat)(a5:Nat)(a6:Nat):I:=⟨some a0,none,.call a1 [.tmp a2,.const (.int .i64 a3),.tmp a4,.tmp a5,.tmp a6]⟩
abbrev qy(a0:Nat)(a1:Nat)(a2:Nat)(a3:Int)(a4:Int)(a5:Nat)(a6:Nat):I:=⟨some a0,none,.call a1 [.tmp a2,.const (.int .i64 a3),.const (.int .i64 a4),.tmp a5,.tmp a6]⟩
abbrev jF(a0:Nat)(a1:Nat)(a2:Nat)(a3:Int)(a4:Nat)(a5:Int)(a6:Int):I:=⟨some a0,none,.call a1 [.tmp a2,.const (.int .i64 a3),.tmp a4,.const (.int .i64 a5),.const (.int .i64 a6)]⟩
noncomputable def c93:C:=
 .seq (.reg [zC 2 0]) (.seq (.seq (.dreg 10 [z3 4 0,z6 5 4,z4 6 1 5,z5 7 1 6,z3 8 0,z6 9 8,z4 10 0 9,z5 11 1 10,zG 12 11,zQ 13 7 12]) (.cond (.tmp 13) (.seq (.dreg 10 [z3 14 0,z6 15 14,z4 16 0 15,z5 17 1 16,z3 18 0,z6 19 18,z4 20 1 19,z5 21 1 20,z9 22 1 17 21,z5 23 1 22,z3 3 23]) (.seq (.reg [z3 24 0,z6 25 24,z4 26 1 25,z5 27 1 26,zN 28 27 1,z6 29 24,z4 30 1 29,z8 1 30 28]) (.seq (.reg [z3 31
 0,z3 32 0,z6 33 32,z4 34 2 33,z5 35 1 34,⟨some 36,none,.bin .mul (.tmp 35) (.const (.int .u64 6364136223846793005))⟩,z3 37 3,⟨some 38,none,.conv .u64 (.tmp 37)⟩,q7 39 36 38,⟨some 40,none,.bin .add (.tmp 39) (.const (.int .u64 1442695040888963407))⟩,z6 41 31,z4 42 2 41,z8 1 42 40]) (.seq (.reg [z3 43 3,⟨some 44,none,.conv .i64 (.tmp 43)⟩,z3 2 44]) .ret)))) .skip)) (.seq (.reg [z3 45 0,z3 46 0,z6
 47 46,z4 48 2 47,z5 49 1 48,⟨some 50,none,.bin .mul (.tmp 49) (.const (.int .u64 6364136223846793005))⟩,⟨some 51,none,.bin .add (.tmp 50) (.const (.int .u64 1442695040888963407))⟩,z6 52 45,z4 53 2 52,z8 1 53 51]) (.seq (.reg [z3 54 0,z6 55 54,z4 56 1 55,z5 57 1 56,zN 58 57 1,z6 59 54,z4 60 1 59,z8 1 60 58]) (.seq (.reg [z3 61 0,z6 62 61,z4 63 2 62,z5 64 1 63,⟨some 65,none,.bin .shr (.tmp 64)
 (.const (.int .u64 40))⟩,⟨some 66,none,.bin .and (.tmp 65) (.const (.int .u64 255))⟩,⟨some 67,none,.conv .i64 (.tmp 66)⟩,z3 2 67]) .ret))))
theorem t93:Tryz.f93.body.bind (trC e93)=some c93:=by kernel_rfl
theorem r93:Tryz.f93.results.toList.mapM (trR Tryz.prog)=some [.tmp 2]:=by kernel_rfl
theorem fn93{args:List Value}{M:Mem}{post:Value→Mem→Prop}(hl:args.length≤68)(h:VC e93 c93 (fnQ [.tmp 2] post) (initS args 68) M):Fn Tryz.prog 93 args M post:=
 Fn.of' (E:=e93) Tryz.func93 t93 rfl r93 mixed hl h
noncomputable def e58:Env:=⟨Tryz.prog,[],20,[]⟩
noncomputable def c58:C:=
 .seq (.reg [zC 4 0]) (.seq (.seq (.reg [z3 6 1,⟨some 7,none,.bin .leq (.tmp 6) (.const (.int .i64 1))⟩]) (.cond (.tmp 7) (.seq (.reg [zC 4 0]) .ret) .skip)) (.seq (.reg [z3 8 0,zM 9 93 8,z3 5 9]) (.seq (.seq (.reg [z3 10 1,zz 11 10 200]) (.cond (.tmp 11) (.reg [z3 12 5,⟨some 13,none,.bin .mul (.tmp 12) (.const (.int .i64 256))⟩,z3 14 0,zM 15 93 14,q7 16 13 15,z3 5 16]) .skip)) (.seq (.reg [
 z3 17 5,z3 18 1,⟨some 19,none,.bin .rem (.tmp 17) (.tmp 18)⟩,z3 4 19]) .ret))))
theorem t58:Tryz.f58.body.bind (trC e58)=some c58:=by kernel_rfl
theorem r58:Tryz.f58.results.toList.mapM (trR Tryz.prog)=some [.tmp 4]:=by kernel_rfl
theorem fn58{args:List Value}{M:Mem}{post:Value→Mem→Prop}(hl:args.length≤20)(h:VC e58 c58 (fnQ [.tmp 4] post) (initS args 20) M):Fn Tryz.prog 58 args M post:=
 Fn.of' (E:=e58) Tryz.func58 t58 rfl r58 mixed hl h
noncomputable def e109:Env:=⟨Tryz.prog,[],23,[]⟩
noncomputable def c109:C:=
 .seq (.reg [zC 2 0]) (.seq (.seq (.reg [z3 3 0,zT 4 58 3 6]) (.block 0 (.seq (.reg [z7 6 4 0,z3 5 6]) (.cond (.tmp 5) (.seq (.reg [z3 7 0,zT 8 58 7 3,⟨some 9,none,.bin .sub (.const (.int .i64 9223372036854775807)) (.tmp 8)⟩,z3 2 9]) .ret) (.seq (.reg [z7 11 4 1,z3 10 11]) (.cond (.tmp 10) (.seq (.reg [z3 12 0,zT 13 58 12 3,zi 14 (-9223372036854775808) 13,z3 2 14]) .ret) (.seq (.reg [z7 16
 4 2,z3 15 16]) (.cond (.tmp 15) (.seq (.reg [z3 17 0,zT 18 58 17 70000,za 19 18 35000,z3 2 19]) .ret) .skip)))))))) (.seq (.reg [z3 20 0,zT 21 58 20 12,za 22 21 3,z3 2 22]) .ret))
theorem t109:Tryz.f109.body.bind (trC e109)=some c109:=by kernel_rfl
theorem r109:Tryz.f109.results.toList.mapM (trR Tryz.prog)=some [.tmp 2]:=by kernel_rfl
theorem fn109{args:List Value}{M:Mem}{post:Value→Mem→Prop}(hl:args.length≤23)(h:VC e109 c109 (fnQ [.tmp 2] post) (initS args 23) M):Fn Tryz.prog 109 args M post:=
 Fn.of' (E:=e109) Tryz.func109 t109 rfl r109 mixed hl h
noncomputable def e24:Env:=⟨Tryz.prog,[],108,[]⟩
noncomputable def c24:C:=
 .seq (.reg [qg 2]) (.seq (.reg [z3 8 0,z3 9 0,zM 10 57 9,zU 11 56 8 10,z3 3 11]) (.seq (.reg [z3 12 0,zT 13 58 12 8,z3 4 13]) (.seq (.seq (.reg [z3 14 0,zT 15 58 14 8,zi 16 1 15,z3 5 16]) (.block 0 (.loop (.seq (.seq (.reg [z3 17 5,zz 18 17 0]) (.cond (.tmp 18) .skip (.exit 0))) (.seq (.block 1 (.reg [z3 21 3,zM 22 59 21])) (.reg [z3 19 5,za 20 19 1,z3 5 20])))))) (.seq (.seq (.reg [z3 23
 0,zT 24 58 23 3,z7 25 24 0]) (.cond (.tmp 25) (.seq (.reg [z3 26 3,z6 27 26,z4 28 1 27,z5 29 1 28,z3 2 29]) .ret) .skip)) (.seq (.seq (.reg [z3 30 3,z6 31 30,z4 32 1 31,z5 33 1 32,z6 34 33,z4 35 5 34,z5 36 1 35,z7 37 36 0]) (.cond (.tmp 37) (.reg [z3 38 3,z6 39 38,z4 40 1 39,z5 41 1 40,zM 42 60 41]) .skip)) (.seq (.seq (.reg [zC 6 0]) (.block 2 (.loop (.seq (.seq (.reg [z3 43 6,qP 44 43
 20000,z3 45 44,zF 46 45 3,zR 47 45 46,zE 48 45 1 47,zD 49 45 1 48,zR 50 45 49,zE 51 45 5 50,zD 52 45 1 51,zF 53 45 4,⟨some 54,some (45,true),.bin .neq (.tmp 52) (.tmp 53)⟩,zJ 55 45 54,z3 56 55,zF 57 56 4,⟨some 58,some (56,true),.bin .leq (.tmp 57) (.const (.int .i64 6))⟩,zJ 59 56 58]) (.cond (.tmp 59) .skip (.exit 2))) (.seq (.block 3 (.seq (.seq (.reg [z3 62 3,z6 63 62,z4 64 1 63,z5 65 1 64,z6
 66 65,z4 67 5 66,z5 68 1 67,z7 69 68 0]) (.cond (.tmp 69) (.reg [z3 70 3,z6 71 70,z4 72 1 71,z5 73 1 72,zM 74 60 73]) .skip)) (.reg [z3 75 3,z6 76 75,z4 77 1 76,z5 78 1 77,zM 79 61 78]))) (.reg [z3 60 6,zN 61 60 1,z3 6 61])))))) (.seq (.seq (.reg [z3 80 0,zT 81 58 80 6,z3 7 81]) (.block 4 (.loop (.seq (.seq (.reg [z3 82 7,zz 83 82 0]) (.cond (.tmp 83) .skip (.exit 4))) (.seq (.block 5 (.seq
 (.seq (.reg [z3 86 0,zT 87 58 86 2,z7 88 87 0]) (.cond (.tmp 88) (.reg [z3 89 3,zM 90 62 89]) .skip)) (.seq (.reg [z3 91 3,z6 92 91,z4 93 1 92,z5 94 1 93,z6 95 94,z4 96 5 95,z5 97 1 96,zk 98 97 0]) (.cond (.tmp 98) (.reg [z3 99 3,z6 100 99,z4 101 1 100,z5 102 1 101,zM 103 61 102]) .skip)))) (.reg [z3 84 7,za 85 84 1,z3 7 85])))))) (.seq (.reg [z3 104 3,z6 105 104,z4 106 1 105,z5 107 1 106,
 z3 2 107]) .ret))))))))
theorem t24:Tryz.f24.body.bind (trC e24)=some c24:=by kernel_rfl
theorem r24:Tryz.f24.results.toList.mapM (trR Tryz.prog)=some [.tmp 2]:=by kernel_rfl
theorem fn24{args:List Value}{M:Mem}{post:Value→Mem→Prop}(hl:args.length≤108)(h:VC e24 c24 (fnQ [.tmp 2] post) (initS args 108) M):Fn Tryz.prog 24 args M post:=
 Fn.of' (E:=e24) Tryz.func24 t24 rfl r24 mixed hl h
noncomputable def e57:Env:=⟨Tryz.prog,[],18,[]⟩
noncomputable def c57:C:=
 .seq (.reg [zC 2 0]) (.seq (.seq (.reg [z3 3 0,zT 4 58 3 6]) (.block 0 (.seq (.reg [z7 6 4 0,z3 5 6]) (.cond (.tmp 5) (.seq (.reg [z3 7 0,zT 8 58 7 30,zi 9 1 8,z3 2 9]) .ret) (.seq (.reg [z7 11 4 1,z3 10 11]) (.cond (.tmp 10) (.seq (.reg [z3 12 0,zT 13 58 12 1001,zi 14 3000 13,z3 2 14]) .ret) .skip)))))) (.seq (.reg [z3 15 0,zT 16 58 15 160,zi 17 40 16,z3 2 17]) .ret))
theorem t57:Tryz.f57.body.bind (trC e57)=some c57:=by kernel_rfl
theorem r57:Tryz.f57.results.toList.mapM (trR Tryz.prog)=some [.tmp 2]:=by kernel_rfl
theorem fn57{args:List Value}{M:Mem}{post:Value→Mem→Prop}(hl:args.length≤18)(h:VC e57 c57 (fnQ [.tmp 2] post) (initS args 18) M):Fn Tryz.prog 57 args M post:=
 Fn.of' (E:=e57) Tryz.func57 t57 rfl r57 mixed hl h
noncomputable def e56:Env:=⟨Tryz.prog,[],10,[]⟩
noncomputable def c56:C:=
 .seq (.reg [qg 4]) (.seq (.reg [z3 5 0,z3 6 1,zM 7 92 6,⟨some 8,none,.build [.pointer none,.pointer none,.slice none 0 0,.int .i64 0] [(0,1,.tmp 5),(1,1,.tmp 7),(3,1,.const (.int .i64 400))]⟩,zt 9 8,z3 4 9]) .ret)
theorem t56:Tryz.f56.body.bind (trC e56)=some c56:=by kernel_rfl
theorem r56:Tryz.f56.results.toList.mapM (trR Tryz.prog)=some [.tmp 4]:=by kernel_rfl
theorem fn56{args:List Value}{M:Mem}{post:Value→Mem→Prop}(hl:args.length≤10)(h:VC e56 c56 (fnQ [.tmp 4] post) (initS args 10) M):Fn Tryz.prog 56 args M post:=
 Fn.of' (E:=e56) Tryz.func56 t56 rfl r56 mixed hl h
noncomputable def e6:Env:=⟨Tryz.prog,[2],11,[]⟩
noncomputable def c6:C:=
 .seq (.reg [⟨some 2,none,.alloc true [.int .i64 0,.int .i64 0,.int .i64 0,.slice none 0 0,.slice none 0 0,.int .i64 0,.int .i64 0,.int .i64 0,.slice none 0 0,.int .i64 0,.int .i64 0,.int .i64 0,.int .i64 0]⟩]) (.seq (.reg [z3 4 0,⟨some 5,none,.build [.slice none 0 0,.int .i64 0,.int .u64 0] [(0,1,.tmp 4)]⟩,zt 6 5,z3 3 6]) (.seq (.reg [z3 7 3,zM 8 24 7,z6 9 8,zA 10 13 9,z8 13 2 10]) .ret))
theorem t6:Tryz.f6.body.bind (trC e6)=some c6:=by kernel_rfl
theorem r6:Tryz.f6.results.toList.mapM (trR Tryz.prog)=some [.cell 2 false 13]:=by kernel_rfl
theorem fn6{args:List Value}{M:Mem}{post:Value→Mem→Prop}(hl:args.length≤11)(h:VC e6 c6 (fnQ [.cell 2 false 13] post) (initS args 11) M):Fn Tryz.prog 6 args M post:=
 Fn.of' (E:=e6) Tryz.func6 t6 rfl r6 mixed hl h
noncomputable def e108:Env:=⟨Tryz.prog,[3,22],32,[(3,7),(4,5)]⟩
noncomputable def c108:C:=
 .seq (.reg [zZ 3 1]) (.seq (.seq (.reg [z3 4 0,z6 5 4,z4 6 3 5,z5 7 1 6,z7 8 7 0]) (.cond (.tmp 8) .ret .skip)) (.seq (.reg [z3 9 0,z6 10 9,z4 11 3 10,z5 12 1 11,za 13 12 1,z6 14 9,z4 15 3 14,z8 1 15 13]) (.seq (.dreg 7 [z3 16 0,z3 17 0,z6 18 17,z4 19 2 18,z5 20 1 19,zA 21 5 3,⟨some 22,none,.bslice true 1 5 [.int .i64 0,.int .i64 0,.int .i64 0,.int .i64 0,.int .i64 0] [(0,5,.tmp 21)]⟩,⟨some
 23,none,.app 5 40 [.int .i64 0,.int .i64 0,.int .i64 0,.int .i64 0,.int .i64 0] (.tmp 20) (.tmp 22)⟩,z6 24 16,z4 25 2 24,z8 1 25 23]) (.dreg 5 [z3 26 0,z6 27 26,z4 28 1 27,z5 29 1 28,zA 30 5 3,zU 31 130 29 30]))))
theorem t108:Tryz.f108.body.bind (trC e108)=some c108:=by kernel_rfl
theorem r108:Tryz.f108.results.toList.mapM (trR Tryz.prog)=some []:=by kernel_rfl
theorem fn108{args:List Value}{M:Mem}{post:Value→Mem→Prop}(hl:args.length≤32)(h:VC e108 c108 (fnQ [] post) (initS args 32) M):Fn Tryz.prog 108 args M post:=
 Fn.of' (E:=e108) Tryz.func108 t108 rfl r108 mixed hl h
noncomputable def e107:Env:=⟨Tryz.prog,[],17,[]⟩
noncomputable def c107:C:=
 .reg [z3 10 0,z3 11 1,z3 12 2,z3 13 3,z3 14 4,⟨some 15,none,.build [.int .i64 0,.int .i64 0,.int .i64 0,.int .i64 0,.int .i64 0] [(0,1,.tmp 11),(1,1,.tmp 12),(2,1,.tmp 13),(3,1,.tmp 14)]⟩,zU 16 108 10 15]
theorem t107:Tryz.f107.body.bind (trC e107)=some c107:=by kernel_rfl
theorem r107:Tryz.f107.results.toList.mapM (trR Tryz.prog)=some []:=by kernel_rfl
theorem fn107{args:List Value}{M:Mem}{post:Value→Mem→Prop}(hl:args.length≤17)(h:VC e107 c107 (fnQ [] post) (initS args 17) M):Fn Tryz.prog 107 args M post:=
 Fn.of' (E:=e107) Tryz.func107 t107 rfl r107 mixed hl h
noncomputable def e111:Env:=⟨Tryz.prog,[5],32,[(4,13)]⟩
noncomputable def c111:C:=
 .seq (.reg [zC 4 0]) (.seq (.reg [z3 6 0,z6 7 6,z4 8 1 7,z5 9 1 8,z6 10 9,z4 11 3 10,z5 12 1 11,z3 13 1,z9 14 3 12 13,zA 15 3 14,zo 5 0 0 0,z8 3 5 15]) (.seq (.seq (.reg [z4 16 0 5,z5 17 1 16,zk 18 17 2]) (.cond (.tmp 18) (.seq (.reg [zC 4 0]) .ret) .skip)) (.seq (.dreg 13 [z3 19 0,z6 20 19,z4 21 1 20,z5 22 1 21,z6 23 22,z4 24 4 23,z5 25 1 24,z4 26 2 5,z5 27 1 26,z9 28 8 25 27,z4 29 7 28,z5
 30 1 29,zG 31 30,z3 4 31]) .ret)))
theorem t111:Tryz.f111.body.bind (trC e111)=some c111:=by kernel_rfl
theorem r111:Tryz.f111.results.toList.mapM (trR Tryz.prog)=some [.tmp 4]:=by kernel_rfl
theorem fn111{args:List Value}{M:Mem}{post:Value→Mem→Prop}(hl:args.length≤32)(h:VC e111 c111 (fnQ [.tmp 4] post) (initS args 32) M):Fn Tryz.prog 111 args M post:=
 Fn.of' (E:=e111) Tryz.func111 t111 rfl r111 mixed hl h
noncomputable def e110:Env:=⟨Tryz.prog,[],26,[]⟩
noncomputable def c110:C:=
 .seq (.reg [zC 4 0]) (.seq (.reg [z3 6 0,z3 7 1,zU 8 111 6 7,z3 5 8]) (.seq (.seq (.reg [z3 9 5,z7 10 9 0,z3 11 10,zP 12 11 0,zY 13 11 12,zI 14 11 0 13,zK 15 11 1 14,⟨some 16,some (11,false),.call 58 [.tmp 15,.const (.int .i64 20)]⟩,q0 17 11 16 0,zO 18 11 17]) (.cond (.tmp 18) (.seq (.reg [z3 19 5,z3 4 19]) .ret) .skip)) (.seq (.reg [z3 20 0,z6 21 20,z4 22 0 21,z5 23 1 22,z3 24 5,zU 25 58 23
 24,z3 4 25]) .ret)))
theorem t110:Tryz.f110.body.bind (trC e110)=some c110:=by kernel_rfl
theorem r110:Tryz.f110.results.toList.mapM (trR Tryz.prog)=some [.tmp 4]:=by kernel_rfl
theorem fn110{args:List Value}{M:Mem}{post:Value→Mem→Prop}(hl:args.length≤26)(h:VC e110 c110 (fnQ [.tmp 4] post) (initS args 26) M):Fn Tryz.prog 110 args M post:=
 Fn.of' (E:=e110) Tryz.func110 t110 rfl r110 mixed hl h
noncomputable def e106:Env:=⟨Tryz.prog,[],27,[]⟩
noncomputable def c106:C:=
 .seq (.reg [zC 2 0]) (.seq (.seq (.reg [z3 3 0,z6 4 3,z4 5 0 4,z5 6 1 5,zT 7 58 6 16]) (.block 0 (.seq (.reg [z7 9 7 0,z3 8 9]) (.cond (.tmp 8) (.seq (.reg [z3 10 0,z6 11 10,z4 12 0 11,z5 13 1 12,zT 14 58 13 201,z3 2 14]) .ret) (.seq (.reg [z7 16 7 1,z3 15 16]) (.cond (.tmp 15) (.seq (.reg [z3 17 0,z6 18 17,z4 19 0 18,z5 20 1 19,zT 21 58 20 30,z3 2 21]) .ret) .skip)))))) (.seq (.reg [z3 22
 0,z6 23 22,z4 24 0 23,z5 25 1 24,zT 26 58 25 4,z3 2 26]) .ret))
theorem t106:Tryz.f106.body.bind (trC e106)=some c106:=by kernel_rfl
theorem r106:Tryz.f106.results.toList.mapM (trR Tryz.prog)=some [.tmp 2]:=by kernel_rfl
theorem fn106{args:List Value}{M:Mem}{post:Value→Mem→Prop}(hl:args.length≤27)(h:VC e106 c106 (fnQ [.tmp 2] post) (initS args 27) M):Fn Tryz.prog 106 args M post:=
 Fn.of' (E:=e106) Tryz.func106 t106 rfl r106 mixed hl h
noncomputable def e62:Env:=⟨Tryz.prog,[],167,[]⟩
noncomputable def c62:C:=
 .seq (.reg [z3 11 0,z6 12 11,z4 13 0 12,z5 14 1 13,z3 2 14]) (.seq (.reg [z3 15 2,zT 16 58 15 6,z3 3 16]) (.seq (.reg [z3 17 2,zT 18 58 17 6,z3 4 18]) (.seq (.reg [z3 19 2,zT 20 58 19 26]) (.block 0 (.seq (.seq (.reg [z7 27 20 0,z3 26 27]) (.cond (.tmp 26) .skip (.seq (.reg [z7 28 20 1,z3 26 28]) (.cond (.tmp 26) .skip (.seq (.reg [z7 29 20 2,z3 26 29]) (.cond (.tmp 26) .skip (.seq (.reg [
 z7 30 20 3,z3 26 30]) (.cond (.tmp 26) .skip (.seq (.reg [z7 31 20 4,z3 26 31]) (.cond (.tmp 26) .skip (.reg [z7 32 20 5,z3 26 32]))))))))))) (.cond (.tmp 26) (.seq (.reg [z3 33 0,zM 34 106 33,z3 5 34]) (.reg [z3 35 0,z3 36 3,z3 37 2,zT 38 58 37 4,z3 39 5,ql 40 107 35 1 36 38 39])) (.seq (.reg [z7 42 20 6,z3 41 42]) (.cond (.tmp 41) (.reg [z3 43 0,z3 44 3,z3 45 2,zM 46 109 45,⟨some 47,none,
 .build [.int .i64 0,.int .i64 0,.int .i64 0,.int .i64 0,.int .i64 0] [(0,1,.const (.int .i64 2)),(1,1,.tmp 44),(4,1,.tmp 46)]⟩,zU 48 108 43 47]) (.seq (.reg [z7 50 20 7,z3 49 50]) (.cond (.tmp 49) (.reg [z3 51 0,z3 52 3,jF 53 107 51 3 52 0 0]) (.seq (.reg [z7 55 20 8,z3 54 55]) (.cond (.tmp 54) (.reg [z3 56 0,z3 57 3,z3 58 4,⟨some 59,none,.call 107 [.tmp 56,.const (.int .i64 4),.tmp 57,.tmp
 58,.const (.int .i64 0)]⟩]) (.seq (.reg [z7 61 20 9,z3 60 61]) (.cond (.tmp 60) (.seq (.reg [z3 62 0,z3 63 4,zU 64 110 62 63,z3 6 64]) (.reg [z3 65 0,z3 66 3,z3 67 4,z3 68 6,ql 69 107 65 5 66 67 68])) (.seq (.seq (.reg [z7 71 20 10,z3 70 71]) (.cond (.tmp 70) .skip (.reg [z7 72 20 11,z3 70 72]))) (.cond (.tmp 70) (.seq (.reg [z3 73 0,z3 74 4,zU 75 110 73 74,z3 7 75]) (.reg [z3 76 0,z3 77 3,
 z3 78 4,z3 79 7,ql 80 107 76 6 77 78 79])) (.seq (.seq (.reg [z7 82 20 12,z3 81 82]) (.cond (.tmp 81) .skip (.reg [z7 83 20 13,z3 81 83]))) (.cond (.tmp 81) (.seq (.reg [z3 84 0,z3 85 3,zU 86 110 84 85,z3 8 86]) (.reg [z3 87 0,z3 88 3,z3 89 4,z3 90 8,ql 91 107 87 7 88 89 90])) (.seq (.seq (.reg [z7 93 20 14,z3 92 93]) (.cond (.tmp 92) .skip (.seq (.reg [z7 94 20 15,z3 92 94]) (.cond (.tmp
 92) .skip (.reg [z7 95 20 16,z3 92 95]))))) (.cond (.tmp 92) (.seq (.reg [z3 96 0,z3 97 3,zU 98 110 96 97,z3 9 98]) (.reg [z3 99 0,z3 100 3,z3 101 4,z3 102 9,ql 103 107 99 8 100 101 102])) (.seq (.reg [z7 105 20 17,z3 104 105]) (.cond (.tmp 104) (.seq (.reg [z3 106 0,zM 107 106 106,z3 10 107]) (.seq (.seq (.reg [z3 108 2,zT 109 58 108 3,z7 110 109 0]) (.cond (.tmp 110) (.reg [z3 111 0,z3
 112 3,zU 113 111 111 112,⟨some 114,none,.bin .sub (.const (.int .i64 200)) (.tmp 113)⟩,z3 115 2,zT 116 58 115 3,q7 117 114 116,za 118 117 1,z3 10 118]) .skip)) (.reg [z3 119 0,z3 120 3,z3 121 10,qe 122 107 119 9 120 0 121]))) (.seq (.reg [z7 124 20 18,z3 123 124]) (.cond (.tmp 123) (.reg [z3 125 0,z3 126 3,z3 127 2,zT 128 58 127 4,qe 129 107 125 10 126 0 128]) (.seq (.reg [z7 131 20 19,z3 130
 131]) (.cond (.tmp 130) (.reg [z3 132 0,z3 133 3,z3 134 2,zT 135 58 134 4,qe 136 107 132 11 133 0 135]) (.seq (.reg [z7 138 20 20,z3 137 138]) (.cond (.tmp 137) (.reg [z3 139 0,z3 140 3,z3 141 2,zT 142 58 141 2,qe 143 107 139 12 140 0 142]) (.seq (.reg [z7 145 20 21,z3 144 145]) (.cond (.tmp 144) (.reg [z3 146 0,z3 147 3,z3 148 4,⟨some 149,none,.call 107 [.tmp 146,.const (.int .i64 13),.tmp
 147,.tmp 148,.const (.int .i64 0)]⟩]) (.seq (.reg [z7 151 20 22,z3 150 151]) (.cond (.tmp 150) (.reg [z3 152 0,z3 153 2,zT 154 58 153 4,zi 155 14 154,z3 156 3,⟨some 157,none,.call 107 [.tmp 152,.tmp 155,.tmp 156,.const (.int .i64 0),.const (.int .i64 0)]⟩]) (.seq (.reg [z7 159 20 23,z3 158 159]) (.cond (.tmp 158) (.reg [z3 160 0,zc 161 107 160 18 0 0 0]) (.seq (.reg [z7 163 20 24,z3 162
 163]) (.cond (.tmp 162) (.reg [z3 164 0,z3 165 3,jF 166 107 164 19 165 0 0]) (.reg [z3 21 0,z3 22 2,zT 23 58 22 2,zi 24 20 23,⟨some 25,none,.call 107 [.tmp 21,.tmp 24,.const (.int .i64 0),.const (.int .i64 0),.const (.int .i64 0)]⟩])))))))))))))))))))))))))))))))))))))
theorem t62:Tryz.f62.body.bind (trC e62)=some c62:=by kernel_rfl
theorem r62:Tryz.f62.results.toList.mapM (trR Tryz.prog)=some []:=by kernel_rfl
theorem fn62{args:List Value}{M:Mem}{post:Value→Mem→Prop}(hl:args.length≤167)(h:VC e62 c62 (fnQ [] post) (initS args 167) M):Fn Tryz.prog 62 args M post:=
 Fn.of' (E:=e62) Tryz.func62 t62 rfl r62 mixed hl h
noncomputable def e98:Env:=⟨Tryz.prog,[],37,[]⟩
noncomputable def c98:C:=
 .seq (.reg [z3 3 0,z6 4 3,z4 5 0 4,z5 6 1 5,z3 2 6]) (.seq (.reg [z3 7 2,zT 8 58 7 14]) (.block 0 (.seq (.reg [z7 10 8 0,z3 9 10]) (.cond (.tmp 9) (.reg [z3 11 0,z3 12 2,zT 13 58 12 5,z3 14 2,zT 15 58 14 60,qy 16 107 11 23 0 13 15]) (.seq (.reg [z7 18 8 1,z3 17 18]) (.cond (.tmp 17) (.reg [z3 19 0,zc 20 107 19 24 0 0 0]) (.seq (.reg [z7 22 8 2,z3 21 22]) (.cond (.tmp 21) (.reg [z3 23 0,z3
 24 2,zT 25 58 24 2000,qI 26 107 23 22 0 0 25]) (.seq (.seq (.reg [z7 28 8 3,z3 27 28]) (.cond (.tmp 27) .skip (.seq (.reg [z7 29 8 4,z3 27 29]) (.cond (.tmp 27) .skip (.seq (.reg [z7 30 8 5,z3 27 30]) (.cond (.tmp 27) .skip (.seq (.reg [z7 31 8 6,z3 27 31]) (.cond (.tmp 27) .skip (.reg [z7 32 8 7,z3 27 32]))))))))) (.cond (.tmp 27) (.reg [z3 33 0,z3 34 2,zT 35 58 34 40,qI 36 107 33 22 0 0
 35]) .skip))))))))))
theorem t98:Tryz.f98.body.bind (trC e98)=some c98:=by kernel_rfl
theorem r98:Tryz.f98.results.toList.mapM (trR Tryz.prog)=some []:=by kernel_rfl
theorem fn98{args:List Value}{M:Mem}{post:Value→Mem→Prop}(hl:args.length≤37)(h:VC e98 c98 (fnQ [] post) (initS args 37) M):Fn Tryz.prog 98 args M post:=
 Fn.of' (E:=e98) Tryz.func98 t98 rfl r98 mixed hl h
noncomputable def e59:Env:=⟨Tryz.prog,[],42,[]⟩
noncomputable def c59:C:=
 .seq (.reg [z3 4 0,z6 5 4,z4 6 0 5,z5 7 1 6,z3 2 7]) (.seq (.seq (.reg [z3 8 2,zT 9 58 8 7]) (.block 0 (.seq (.reg [z7 22 9 0,z3 21 22]) (.cond (.tmp 21) (.reg [z3 23 0,z3 24 2,zT 25 58 24 5,zi 26 1 25,zU 27 94 23 26]) (.seq (.reg [z7 29 9 1,z3 28 29]) (.cond (.tmp 28) (.reg [z3 30 0,zM 31 95 30]) (.seq (.reg [z7 33 9 2,z3 32 33]) (.cond (.tmp 32) (.reg [z3 34 0,zM 35 96 34]) (.seq (.reg
 [z7 37 9 3,z3 36 37]) (.cond (.tmp 36) (.reg [z3 38 0,zM 39 97 38]) (.seq (.reg [z3 10 2,zT 11 58 10 8,zi 12 2 11,z3 3 12]) (.block 1 (.loop (.seq (.seq (.reg [z3 13 3,zz 14 13 0]) (.cond (.tmp 14) .skip (.exit 1))) (.seq (.block 2 (.seq (.reg [z3 17 0,zM 18 62 17]) (.reg [z3 19 0,zM 20 98 19]))) (.reg [z3 15 3,za 16 15 1,z3 3 16])))))))))))))))) (.reg [z3 40 0,zM 41 98 40]))
theorem t59:Tryz.f59.body.bind (trC e59)=some c59:=by kernel_rfl
theorem r59:Tryz.f59.results.toList.mapM (trR Tryz.prog)=some []:=by kernel_rfl
theorem fn59{args:List Value}{M:Mem}{post:Value→Mem→Prop}(hl:args.length≤42)(h:VC e59 c59 (fnQ [] post) (initS args 42) M):Fn Tryz.prog 59 args M post:=
 Fn.of' (E:=e59) Tryz.func59 t59 rfl r59 mixed hl h
noncomputable def e94:Env:=⟨Tryz.prog,[],64,[]⟩
noncomputable def c94:C:=
 .seq (.reg [z3 5 0,z3 6 1,qI 7 107 5 1 0 1 6]) (.seq (.reg [z3 8 0,z3 9 0,z6 10 9,z4 11 0 10,z5 12 1 11,zT 13 58 12 6,⟨some 14,none,.bin .quo (.tmp 13) (.const (.int .i64 5))⟩,⟨some 15,none,.bin .mul (.const (.int .i64 2)) (.tmp 14)⟩,zi 16 1 15,qI 17 107 8 11 0 0 16]) (.seq (.reg [z3 18 0,zc 19 107 18 1 1 2 0]) (.seq (.reg [z3 20 0,zc 21 107 20 4 3 1 0]) (.seq (.seq (.reg [zC 4 0]) (.block 0
 (.loop (.seq (.seq (.reg [z3 22 4,z3 23 1,zQ 24 22 23]) (.cond (.tmp 24) .skip (.exit 0))) (.seq (.block 1 (.seq (.reg [z3 27 0,zM 28 98 27]) (.seq (.reg [z3 29 0,z3 30 4,qI 31 107 29 7 0 1 30]) (.seq (.reg [z3 32 0,z3 33 0,z6 34 33,z4 35 0 34,z5 36 1 35,zT 37 58 36 2,qI 38 107 32 1 2 2 37]) (.seq (.reg [z3 39 0,z3 40 4,qI 41 107 39 8 0 2 40]) (.reg [z3 42 0,zc 43 107 42 4 1 2 0]))))))
 (.reg [z3 25 4,zN 26 25 1,z3 4 26])))))) (.seq (.reg [z3 44 0,zc 45 107 44 3 1 0 0]) (.seq (.reg [z3 46 0,zc 47 107 46 3 2 0 0]) (.seq (.reg [z3 48 0,zc 49 107 48 20 0 0 0]) (.seq (.reg [z3 50 0,zc 51 107 50 18 0 0 0]) (.seq (.seq (.reg [z3 52 0,z6 53 52,z4 54 0 53,z5 55 1 54,zT 56 58 55 2,z7 57 56 0]) (.cond (.tmp 57) (.seq (.reg [z3 58 0,zc 59 107 58 3 3 0 0]) (.reg [z3 60 0,zc 61 107
 60 18 0 0 0])) .skip)) (.reg [z3 62 0,zc 63 107 62 17 0 0 0]))))))))))
theorem t94:Tryz.f94.body.bind (trC e94)=some c94:=by kernel_rfl
theorem r94:Tryz.f94.results.toList.mapM (trR Tryz.prog)=some []:=by kernel_rfl
theorem fn94{args:List Value}{M:Mem}{post:Value→Mem→Prop}(hl:args.length≤64)(h:VC e94 c94 (fnQ [] post) (initS args 64) M):Fn Tryz.prog 94 args M post:=
 Fn.of' (E:=e94) Tryz.func94 t94 rfl r94 mixed hl h
noncomputable def e95:Env:=⟨Tryz.prog,[],74,[]⟩
noncomputable def c95:C:=
 .seq (.reg [z3 6 0,z6 7 6,z4 8 0 7,z5 9 1 8,zT 10 58 9 4,zi 11 1 10,z3 2 11]) (.seq (.reg [z3 12 0,z3 13 2,qI 14 107 12 1 4 1 13]) (.seq (.reg [z3 15 0,z3 16 0,z6 17 16,z4 18 0 17,z5 19 1 18,zT 20 58 19 3,zi 21 1 20,qI 22 107 15 11 4 0 21]) (.seq (.seq (.reg [zC 3 0]) (.block 0 (.loop (.seq (.seq (.reg [z3 23 3,z3 24 2,zQ 25 23 24]) (.cond (.tmp 25) .skip (.exit 0))) (.seq (.block 1 (.seq
 (.reg [z3 28 0,z6 29 28,z4 30 0 29,z5 31 1 30,zT 32 58 31 3,z3 4 32]) (.seq (.reg [z3 33 0,z3 34 4,z3 35 0,z6 36 35,z4 37 0 36,z5 38 1 37,zT 39 58 38 2,qe 40 107 33 1 34 3 39]) (.seq (.reg [z3 41 0,z3 42 4,z3 43 3,qy 44 107 41 7 4 42 43]) (.seq (.reg [z3 45 0,zM 46 98 45]) (.seq (.reg [z3 47 0,z6 48 47,z4 49 0 48,z5 50 1 49,zT 51 58 50 3,z3 5 51]) (.seq (.seq (.reg [z3 52 0,z6 53 52,z4 54 0
 53,z5 55 1 54,zT 56 58 55 2,z7 57 56 0]) (.cond (.tmp 57) (.reg [z3 58 0,z3 59 5,z3 60 0,z6 61 60,z4 62 0 61,z5 63 1 62,zT 64 58 63 3,qe 65 107 58 1 59 3 64]) .skip)) (.reg [z3 66 0,z3 67 5,z3 68 3,qy 69 107 66 8 4 67 68])))))))) (.reg [z3 26 3,zN 27 26 1,z3 3 27])))))) (.seq (.reg [z3 70 0,zc 71 107 70 18 0 0 0]) (.reg [z3 72 0,zc 73 107 72 17 4 0 0])))))
theorem t95:Tryz.f95.body.bind (trC e95)=some c95:=by kernel_rfl
theorem r95:Tryz.f95.results.toList.mapM (trR Tryz.prog)=some []:=by kernel_rfl
theorem fn95{args:List Value}{M:Mem}{post:Value→Mem→Prop}(hl:args.length≤74)(h:VC e95 c95 (fnQ [] post) (initS args 74) M):Fn Tryz.prog 95 args M post:=
 Fn.of' (E:=e95) Tryz.func95 t95 rfl r95 mixed hl h
noncomputable def e96:Env:=⟨Tryz.prog,[],76,[]⟩
noncomputable def c96:C:=
 .seq (.seq (.reg [z3 5 0,z6 6 5,z4 7 0 6,z5 8 1 7,zT 9 58 8 3,zi 10 1 9,z3 2 10]) (.block 0 (.loop (.seq (.seq (.reg [z3 11 2,zz 12 11 0]) (.cond (.tmp 12) .skip (.exit 0))) (.seq (.block 1 (.seq (.reg [z3 15 0,z3 16 2,zi 17 4 16,z3 18 0,z6 19 18,z4 20 0 19,z5 21 1 20,zT 22 58 21 2,zi 23 1 22,qy 24 107 15 1 5 17 23]) (.seq (.reg [z3 25 0,zc 26 107 25 12 5 0 1]) (.seq (.reg [z3 27 0,zM 28 98
 27]) (.reg [z3 29 0,z3 30 0,z6 31 30,z4 32 0 31,z5 33 1 32,zT 34 58 33 6,⟨some 35,none,.call 107 [.tmp 29,.const (.int .i64 8),.const (.int .i64 5),.tmp 34,.const (.int .i64 0)]⟩]))))) (.reg [z3 13 2,za 14 13 1,z3 2 14])))))) (.seq (.reg [z3 36 0,zc 37 107 36 3 5 0 0]) (.seq (.reg [z3 38 0,zc 39 107 38 18 0 0 0]) (.seq (.seq (.reg [z3 40 0,z6 41 40,z4 42 0 41,z5 43 1 42,zT 44 58 43 4,z3 3
 44]) (.block 2 (.loop (.seq (.seq (.reg [z3 45 3,zz 46 45 0]) (.cond (.tmp 46) .skip (.exit 2))) (.seq (.block 3 (.seq (.reg [z3 49 0,zc 50 107 49 19 5 0 0]) (.seq (.reg [z3 51 0,zM 52 98 51]) (.seq (.reg [z3 53 0,zc 54 107 53 16 5 0 0]) (.seq (.seq (.reg [z3 55 0,z6 56 55,z4 57 0 56,z5 58 1 57,zT 59 58 58 3,z7 60 59 0]) (.cond (.tmp 60) (.seq (.reg [z3 61 0,zT 62 110 61 4,z3 4 62]) (.reg [
 z3 63 0,z3 64 4,qI 65 107 63 8 4 5 64])) .skip)) (.seq (.reg [z3 66 0,z6 67 66,z4 68 0 67,z5 69 1 68,zT 70 58 69 4,z7 71 70 0]) (.cond (.tmp 71) (.reg [z3 72 0,zc 73 107 72 12 5 0 1]) .skip))))))) (.reg [z3 47 3,za 48 47 1,z3 3 48])))))) (.reg [z3 74 0,zc 75 107 74 3 5 0 0]))))
theorem t96:Tryz.f96.body.bind (trC e96)=some c96:=by kernel_rfl
theorem r96:Tryz.f96.results.toList.mapM (trR Tryz.prog)=some []:=by kernel_rfl
theorem fn96{args:List Value}{M:Mem}{post:Value→Mem→Prop}(hl:args.length≤76)(h:VC e96 c96 (fnQ [] post) (initS args 76) M):Fn Tryz.prog 96 args M post:=
 Fn.of' (E:=e96) Tryz.func96 t96 rfl r96 mixed hl h
noncomputable def e97:Env:=⟨Tryz.prog,[],36,[]⟩
noncomputable def c97:C:=
 .seq (.reg [z3 3 0,zc 4 107 3 1 1 7 2]) (.seq (.reg [z3 5 0,zc 6 107 5 1 2 8 1]) (.seq (.reg [z3 7 0,zc 8 107 7 8 1 2 0]) (.seq (.reg [z3 9 0,zc 10 107 9 7 2 1 0]) (.seq (.reg [z3 11 0,zM 12 98 11]) (.seq (.reg [z3 13 0,zc 14 107 13 6 2 1 0]) (.seq (.reg [z3 15 0,zc 16 107 15 5 3 2 0]) (.seq (.reg [z3 17 0,zc 18 107 17 13 1 3 0]) (.seq (.seq (.reg [zC 2 1]) (.block 0 (.loop (.seq (.seq
 (.reg [z3 19 2,qP 20 19 4]) (.cond (.tmp 20) .skip (.exit 0))) (.seq (.block 1 (.seq (.reg [z3 23 0,z6 24 23,z4 25 0 24,z5 26 1 25,zT 27 58 26 3,zz 28 27 0]) (.cond (.tmp 28) (.reg [z3 29 0,z3 30 2,jF 31 107 29 3 30 0 0]) .skip))) (.reg [z3 21 2,zN 22 21 1,z3 2 22])))))) (.seq (.reg [z3 32 0,zM 33 98 32]) (.reg [z3 34 0,zc 35 107 34 21 0 0 0]))))))))))
theorem t97:Tryz.f97.body.bind (trC e97)=some c97:=by kernel_rfl
theorem r97:Tryz.f97.results.toList.mapM (trR Tryz.prog)=some []:=by kernel_rfl
theorem fn97{args:List Value}{M:Mem}{post:Value→Mem→Prop}(hl:args.length≤36)(h:VC e97 c97 (fnQ [] post) (initS args 36) M):Fn Tryz.prog 97 args M post:=
 Fn.of' (E:=e97) Tryz.func97 t97 rfl r97 mixed hl h
end Go.Proofs.YtcjmodomfilagaaGreat.E
namespace Go.Proofs.YtcjmodomfilagaaGreat.E
open Go
open Classical
structure Cod (m:Mem) (ca:Option Addr) (cn:Nat):Prop where
 at_:∀i:Nat,i<cn→∃b o v,ca=some ⟨b,o,none⟩∧cell m b (o+i*1)=some (.int .u8 v)∧0≤v∧v≤255
 bd:cn≤9223372036854775807
def cuA(pc:Nat)(ca:Option Addr)(cn cc:Nat)(t s:Int):Asr:=bx pc [.slice ca cn cc,.int .i64 t,.int .u64 s]
theorem wrap64{n:Int}(h: -9223372036854775808≤n∧n≤9223372036854775807):IntKind.i64.wrap n=n:=IntWalk.i64_in n h
theorem and255(n:Int):0≤IntKind.i64.wrap (IntKind.u64.wrap ((BitVec.ofInt IntKind.u64.bits n&&&BitVec.ofInt IntKind.u64.bits 255).toNat:Int))∧IntKind.i64.wrap (IntKind.u64.wrap ((BitVec.ofInt IntKind.u64.bits n&&&BitVec.ofInt IntKind.u64.bits 255).toNat:Int))≤255:=by
 have h1:(BitVec.ofInt IntKind.u64.bits n&&&BitVec.ofInt IntKind.u64.bits 255).toNat≤255:=by
  rw[BitVec.toNat_and]
  refine Nat.le_trans Nat.and_le_right ?_
  decide
 generalize(BitVec.ofInt IntKind.u64.bits n&&&BitVec.ofInt IntKind.u64.bits 255).toNat=q at h1
 rw[IntWalk.u64_in _ (by omega),wrap64 (by omega)];omega
theorem rd_cod{m:Mem}{b o:Nat}{v:Value}(h:cell m b o=some v):RdA (ro m) b o v:=⟨fun m' hm=>by
 have hm:m'=m:=hm
 subst hm;exact h⟩
theorem u_cu1{p:Nat}{x y z w:Value}:UpA (bx p [x,y,z]) p 1 [w] (bx p [x,w,z]):=up_bx (by simp) ⟨rfl⟩
theorem u_cu2{p:Nat}{x y z w:Value}:UpA (bx p [x,y,z]) p 2 [w] (bx p [x,y,w]):=up_bx (by simp) ⟨rfl⟩
theorem next_a{pc:Nat}{ca:Option Addr}{cn cc:Nat}{t s:Int}{m:Mem}(h:Cod m ca cn)(ht:0≤t∧t≤1000000000000000):FnA Tryz.prog 93 [ptr pc] [cuA pc ca cn cc t s,ro m] (fun v As=>∃k s',v=.int .i64 k∧(0≤k∧k≤255)∧As=[cuA pc ca cn cc (t+1) s',ro m]):=by
 refine fnA_of (fun h=>fn93 (by simp) h) ?_
 have hbd:=h.bd
 unfold cuA
 by_cases hc:t<cn
 ·obtain⟨i,rfl⟩:=Int.eq_ofNat_of_zero_le ht.1
  obtain⟨b,o,v,rfl,hcell,hv⟩:=h.at_ i (by omega)
  repeat' (first
   |(refine k_L ?_;first|(refine k_ad ?_;refine g_ad rfl rfl ?_)|refine a_p rfl ?_|(refine k_l ?_;first|refine a_l rfl (by exact rd_t (rd_h (rd_cod hcell))) ?_|refine g_l rfl ?_)|(refine a_i (e:=⟨some ⟨b,o,none⟩,cc⟩) rfl rfl ⟨fun _ _=>rfl⟩ (by omega) ?_)|(refine a_st rfl rfl rfl rfl (up_h u_cu1) ?_)|(refine a_st rfl rfl rfl rfl (up_h u_cu2) ?_))
   |refine a_n ?_
   |(refine k_V ?_;first|refine v_seq ?_|refine v_reg ?_|refine v_dreg ?_|refine v_ret ?_|(refine v_cd rfl (fun hb=>?_) (fun hb=>?_)<;>try(exfalso;omega)))
   |refine s_r ?_)
  refine fa_r (fun _ _=>rfl) (Pm.ent pmt) ⟨_,_,rfl,?_,rfl⟩
  rw[wrap64 (by omega)];exact hv
 ·repeat' (first
   |(refine k_L ?_;first|(refine k_ad ?_;refine g_ad rfl rfl ?_)|refine a_p rfl ?_|(refine k_l ?_;refine g_l rfl ?_)|(refine a_st rfl rfl rfl rfl (up_h u_cu1) ?_)|(refine a_st rfl rfl rfl rfl (up_h u_cu2) ?_))
   |refine a_n ?_
   |(refine k_V ?_;first|refine v_seq ?_|refine v_reg ?_|refine v_dreg ?_|refine v_ret ?_|refine v_skip ?_|(refine v_cd rfl (fun hb=>?_) (fun hb=>?_)<;>try(exfalso;omega))))
  exact fa_r (fun _ _=>rfl) (Pm.ent pmt) ⟨_,_,rfl,and255 _,rfl⟩
theorem pick_a{pc:Nat}{ca:Option Addr}{cn cc:Nat}{t s n:Int}{m:Mem}(h:Cod m ca cn)(ht:0≤t∧t≤999999999999999)(hn:n≤1000000):FnA Tryz.prog 58 [ptr pc,.int .i64 n] [cuA pc ca cn cc t s,ro m] (fun v As=>∃k t' s',v=.int .i64 k∧(0≤k∧k≤1000000∧(k=0∨k<n))∧(t≤t'∧t'≤t+2)∧As=[cuA pc ca cn cc t' s',ro m]):=by
 refine fnA_of (fun h=>fn58 (by simp) h) ?_
 by_cases hn1:n≤1
 ·repeat' (first
   |(refine k_L ?_;refine a_p rfl ?_)
   |refine a_n ?_
   |(refine k_V ?_;first|refine v_rv ?_|refine v_seq ?_|refine v_reg ?_|(refine v_cd rfl (fun hb=>?_) (fun hb=>?_)<;>try(exfalso;omega)))
   |refine s_r ?_)
  exact fa_r (fun _ _=>rfl) (Pm.ent pmt) ⟨_,_,_,rfl,by omega,by omega,rfl⟩
 ·have key:∀k:Int,0≤k→0≤k.tmod n∧k.tmod n≤1000000∧(k.tmod n=0∨k.tmod n<n):=fun k hk=>by
   have h1:=Int.tmod_nonneg n hk
   have h2:=Int.tmod_lt_of_pos k (by omega:0<n)
   omega
  have hne:n≠0:=by omega
  have a_rm:∀{P:Program} {r:List I} {d:Option Nat} {post:St→List Asr→Prop} {S:St} {As:List Asr} {x y:Operand} {k:Int},ev S x=some (.int .i64 k)→ev S y=some (.int .i64 n)→LA P r post (put S d (.v (.int .i64 (k.tmod n)))) As→LA P (⟨d,none,.bin .rem x y⟩::r) post S As:=
   fun hx hy hp=>a_p (sv:=.v (.int .i64 _)) (by simp only[pe,hx,hy,binV,binI,if_true,if_neg hne,Option.map_some]) hp
  by_cases h2:n≤200
  ·repeat' (first
    |(refine k_L ?_;first|refine a_p rfl ?_|(refine g_c rfl (next_a (t:=t) (s:=s) h (by omega)) (fun v As' hq=>?_);obtain⟨k,s1,rfl,hk,rfl⟩:=hq)|(refine a_rm rfl rfl ?_))
    |refine a_n ?_
    |(refine k_V ?_;first|refine v_seq ?_|refine v_reg ?_|refine v_ret ?_|refine v_skip ?_|(refine v_cd rfl (fun hb=>?_) (fun hb=>?_)<;>try(exfalso;omega))))
   exact fa_r (fun _ _=>rfl) (Pm.ent pmt) ⟨_,_,_,rfl,key k hk.1,by omega,rfl⟩
  ·repeat' (first
    |(refine k_L ?_;first|(refine k_ad ?_;refine g_ad rfl rfl ?_)|(refine k_ml ?_;refine g_ml rfl rfl ?_)|refine a_p rfl ?_|(refine g_c rfl (next_a (t:=t) (s:=s) h (by omega)) (fun v As' hq=>?_);obtain⟨k,s1,rfl,hk,rfl⟩:=hq)|(refine g_c rfl (next_a (t:=t+1) (s:=s1) h (by omega)) (fun v As' hq=>?_);obtain⟨k2,s2,rfl,hk2,rfl⟩:=hq)|(refine a_rm rfl rfl ?_))
    |refine a_n ?_
    |(refine k_V ?_;first|refine v_seq ?_|refine v_reg ?_|refine v_ret ?_|refine v_skip ?_|(refine v_cd rfl (fun hb=>?_) (fun hb=>?_)<;>try(exfalso;omega))))
   exact fa_r (fun _ _=>rfl) (Pm.ent pmt) ⟨_,_,_,rfl,key (k*256+k2) (by omega),by omega,rfl⟩
theorem whole_a{pc:Nat}{ca:Option Addr}{cn cc:Nat}{t s:Int}{m:Mem}(h:Cod m ca cn)(ht:0≤t∧t≤999999999999990):FnA Tryz.prog 109 [ptr pc] [cuA pc ca cn cc t s,ro m] (fun v As=>∃k t' s',v=.int .i64 k∧(t≤t'∧t'≤t+4)∧As=[cuA pc ca cn cc t' s',ro m]):=by
 refine fnA_of (fun h=>fn109 (by simp) h) ?_
 repeat' (first
  |(refine k_L ?_;first|(refine k_ad ?_;refine g_ad rfl rfl ?_)|(refine k_su ?_;refine g_su rfl rfl ?_)|refine a_p rfl ?_|(refine g_c rfl (pick_a (t:=t) (s:=s) (n:=6) h (by omega) (by omega)) (fun v As' hq=>?_);obtain⟨k,t1,s1,rfl,hk,ht1,rfl⟩:=hq)|(refine g_c rfl (pick_a (t:=t1) (s:=s1) h (by omega) (by omega)) (fun v As' hq=>?_);obtain⟨k2,t2,s2,rfl,hk2,ht2,rfl⟩:=hq))
  |refine a_n ?_
  |(refine k_V ?_;first|refine v_seq ?_|refine v_reg ?_|refine v_bs ?_|refine v_ret ?_|refine v_skip ?_|(refine v_cd rfl (fun hb=>?_) (fun hb=>?_)<;>try(exfalso;omega)))
  |refine s_r ?_
  |refine b_r ?_)
 all_goals exact fa_r (fun _ _=>rfl) (Pm.ent pmt) ⟨_,_,_,rfl,by omega,rfl⟩
end Go.Proofs.YtcjmodomfilagaaGreat.E
namespace Go.Proofs.YtcjmodomfilagaaGreat.E
open Go Go.ChangeShapes Go.WideShapes Go.ChangeAt Go.RowKit
theorem und_byte:Tryz.prog.underlying 5=some (.int .u8):=by kernel_rfl
theorem cof_byte:Tryz.prog.cellsOf 5=1:=by kernel_rfl
theorem und_bytes:Tryz.prog.underlying 22=some (.slice 5):=by kernel_rfl
theorem ownknob:ownKnob Tryz.prog.godebug=none:=by kernel_rfl
theorem laid:laidOutB Tryz.prog=true:=by kernel_rfl
theorem und_bool:Tryz.prog.underlying 4=some .bool:=by kernel_rfl
section
variable {H:Type} {enc:TypeId×Value→H} {W:World} {spare:Nat→Bool} {held:Bool}
theorem open_byte:∀n cs y,DataW.trod enc Tryz.prog W 0 spare held n 5 cs=some y→∃x:Int,cs=[Value.int .u8 x]∧(0≤x∧x≤255):=by
 intro n cs y h
 obtain⟨k,e,_,hw⟩:=DataW.trod_int und_byte h
 refine⟨k,e,?_⟩
 have h1:IntKind.u8.min=0:=by decide
 have h2:IntKind.u8.max=255:=by decide
 simpa [Lit.wf,h1,h2]using hw
theorem open_bytes{fuel:Nat}{sa:Option Addr}{n cap:Nat}{x:DataW H×List MemPlace}(h:DataW.trod enc Tryz.prog W 0 spare held fuel 22 (Value.slice sa n cap).cells.toList=some x):Cod (memOf W) sa n:=by
 obtain⟨v,xs,e,hsl,hq⟩:=open_sl (f:=fun v:Int=>[Value.int .u8 v]) (size:=1) (Q:=fun v=>0≤v∧v≤255) (fun _=>rfl) (by omega) und_bytes cof_byte open_byte h
 have e:v=.slice sa n cap:=by simp[Value.cells]at e;exact e.symm
 subst e
 have hbd:=hsl.bound
 have hn:n=xs.length:=by
  obtain⟨a,c,e⟩:=hsl.len
  cases e;rfl
 subst hn
 refine⟨fun i hi=>?_,hbd⟩
 obtain⟨b,o,e,hc⟩:=hsl.at2 (fun _=>rfl) (List.getElem?_eq_getElem hi)
 have:=hq _ (List.getElem_mem hi)
 exact⟨b,o,xs[i],e,cells_cell (j:=0) hc rfl,this⟩
end
end Go.Proofs.YtcjmodomfilagaaGreat.E
namespace Go.Proofs.YtcjmodomfilagaaGreat.E
open Go
open Classical
theorem FnA.post_ent{P:Program}{f:FuncId}{args:List Value}{As:List Asr}{q q':Value→List Asr→Prop}(h:FnA P f args As q)(k:∀v As',q v As'→∃Bs,Ent As' Bs∧q' v Bs):FnA P f args As q':=
 ⟨fun m hm=>(h.out m hm).mono fun v M' ⟨As',m',l,s,p⟩=>by
   obtain⟨Bs,e,hq⟩:=k v As' p
   obtain⟨m2,l2,s2⟩:=e.out m' s
   exact⟨Bs,m2,Mem.le_trans l2 l,s2,hq⟩⟩
theorem FnA.part{P:Program}{f:FuncId}{args:List Value}{As As1 F:List Asr}{q q':Value→List Asr→Prop}(h:FnA P f args As1 q)(hm:Pm As As1 F)(k:∀v As',q v As'→∃Bs,Ent (As'++F) Bs∧q' v Bs):FnA P f args As q':=
 (((h.frame (F:=F)).ent (As:=As) ⟨fun m hm'=>⟨m,Mem.le_refl _,hm.out m hm'⟩⟩)).post_ent fun v As' ⟨As1',hq,e⟩=>by subst e;exact k v As1' hq
structure DW where
 t:Int
 s:Int
 x:HX
 ad:D
 acts:List Act
 left:Int
structure DOk (s:DW) (B:Int):Prop where
 snd:Sound s.x.H
 t0:0≤s.t
 tB:s.t≤B
 lf:0≤s.left
 al:(s.acts.length:Int)+s.left≤400
theorem DOk.up{s:DW}{B C:Int}(h:DOk s B)(l:B≤C):DOk s C:=⟨h.snd,h.t0,Int.le_trans h.tB l,h.lf,h.al⟩
abbrev dwA(pb pc ph:Nat)(ca:Option Addr)(cn cc:Nat)(m:Mem)(s:DW):List Asr:=
 [bx pb [ptr pc,ptr ph,.slice s.ad.a s.acts.length s.ad.cap,.int .i64 s.left],cuA pc ca cn cc s.t s.s,slA 5 av s.ad s.acts,hdA ph s.x.hdr,slA 3 wv s.x.rd s.x.regs,clA s.x.cd s.x.xs,slA 1 iv s.x.gd s.x.gray,ro m]
theorem av_len(a:Act):(av a).length=5:=rfl
theorem u_b2{p:Nat}{x y z u w:Value}:UpA (bx p [x,y,z,u]) p 2 [w] (bx p [x,y,w,u]):=up_bx (by simp) ⟨rfl⟩
theorem u_b3{p:Nat}{x y z u w:Value}:UpA (bx p [x,y,z,u]) p 3 [w] (bx p [x,y,z,w]):=up_bx (by simp) ⟨rfl⟩
section
variable {pb pc ph:Nat} {ca:Option Addr} {cn cc:Nat} {m:Mem} {s:DW} {B:Int}
theorem pick_d{n:Int}(h:DOk s B)(hc:Cod m ca cn)(hB:B≤900000000000000)(hn:n≤1000000):FnA Tryz.prog 58 [ptr pc,.int .i64 n] (dwA pb pc ph ca cn cc m s) (fun v As=>∃k s',v=.int .i64 k∧(0≤k∧k≤1000000∧(k=0∨k<n))∧DOk s' (B+2)∧As=dwA pb pc ph ca cn cc m s'):=
 (pick_a (pc:=pc) (cc:=cc) (t:=s.t) (s:=s.s) hc (by have:=h.t0;have:=h.tB;omega) hn).part pmt fun v As' ⟨k,t',s',e,hk,ht,eA⟩=>by
   subst eA
   exact⟨_,Pm.ent pmt,k,{s with t:=t',s:=s'},e,hk,⟨h.snd,by have:=h.t0;show 0≤t';omega,by have:=h.tB;show t'≤B+2;omega,h.lf,h.al⟩,rfl⟩
theorem whole_d(h:DOk s B)(hc:Cod m ca cn)(hB:B≤900000000000000):FnA Tryz.prog 109 [ptr pc] (dwA pb pc ph ca cn cc m s) (fun v As=>∃k s',v=.int .i64 k∧DOk s' (B+4)∧As=dwA pb pc ph ca cn cc m s'):=
 (whole_a (pc:=pc) (cc:=cc) (t:=s.t) (s:=s.s) hc (by have:=h.t0;have:=h.tB;omega)).part pmt fun v As' ⟨k,t',s',e,ht,eA⟩=>by
   subst eA
   exact⟨_,Pm.ent pmt,k,{s with t:=t',s:=s'},e,⟨h.snd,by have:=h.t0;show 0≤t';omega,by have:=h.tB;show t'≤B+4;omega,h.lf,h.al⟩,rfl⟩
theorem emit_d{b:Act}(h:DOk s B):FnA Tryz.prog 108 [ptr pb,actV b] (dwA pb pc ph ca cn cc m s) (fun v As=>∃s',DOk s' B∧As=dwA pb pc ph ca cn cc m s'):=by
 refine fnA_of (fun h=>fn108 (by simp) h) ?_
 have hl:=h.lf
 have ha:=h.al
 by_cases h0:s.left=0
 ·repeat' (first
   |(refine k_L ?_;first|refine a_p rfl ?_|(refine k_l ?_;refine g_l rfl ?_)|(refine k_bx ?_;refine a_bx rfl rfl ?_))
   |refine a_n ?_
   |(refine k_V ?_;first|refine v_seq ?_|refine v_reg ?_|refine v_ret ?_|(refine v_cd rfl (fun hb=>?_) (fun hb=>?_)<;>try(exfalso;omega)))
   |refine s_r ?_)
  exact fa_r (fun _ _=>rfl) (Pm.ent pmt) ⟨s,h,rfl⟩
 ·repeat' (first
   |(refine k_L ?_;first|(refine k_su ?_;refine g_su rfl rfl ?_)|refine a_p rfl ?_|(refine k_l ?_;refine g_l rfl ?_)|(refine k_bx ?_;refine a_bx rfl rfl ?_)|(refine k_bl ?_;refine a_bl rfl ?_)|(refine a_st rfl rfl rfl rfl (up_h u_b3) ?_)|(refine g_ap b av_len rfl rfl rfl (by omega) (hb:=by omega) (fun e'=>?_))|(refine a_st rfl rfl rfl rfl (up_t (up_h u_b2)) ?_)|(refine g_c rfl (l5do_a (x:=s.x) (b:=b) h.snd) (fun v As' hq=>?_);obtain⟨z,rfl,rfl,hz⟩:=hq))
   |refine a_n ?_
   |(refine k_V ?_;first|refine v_seq ?_|refine v_reg ?_|refine v_dreg ?_|refine v_skip ?_|(refine v_cd rfl (fun hb=>?_) (fun hb=>?_)<;>try(exfalso;omega))))
  exact fa_n (fun _ _=>rfl) (Pm.ent pmt) ⟨⟨s.t,s.s,z,e',s.acts++[b],s.left-1⟩,⟨by show Sound z.H;rw[hz];exact actA_sound h.snd,h.t0,h.tB,by show 0≤s.left-1;omega,by simp;omega⟩,rfl⟩
theorem put_d{op x y z:Int}(h:DOk s B):FnA Tryz.prog 107 [ptr pb,.int .i64 op,.int .i64 x,.int .i64 y,.int .i64 z] (dwA pb pc ph ca cn cc m s) (fun v As=>∃s',DOk s' B∧As=dwA pb pc ph ca cn cc m s'):=by
 refine fnA_of (fun h=>fn107 (by simp) h) ?_
 repeat' (first
  |(refine k_L ?_;first|refine a_p rfl ?_|(refine g_c rfl (emit_d (s:=s) (b:=⟨op,x,y,z,0⟩) h) (fun v As' hq=>?_);obtain⟨s1,h1,rfl⟩:=hq))
  |refine a_n ?_
  |(refine k_V ?_;refine v_reg ?_))
 exact fa_n (fun _ _=>rfl) (Pm.ent pmt) ⟨s1,h1,rfl⟩
theorem pairs_d{r:Nat}(h:DOk s B)(hr:r≤15):FnA Tryz.prog 111 [ptr pb,.int .i64 r] (dwA pb pc ph ca cn cc m s) (fun v As=>∃k,v=.int .i64 k∧(0≤k∧k≤200)∧As=dwA pb pc ph ca cn cc m s):=by
 refine fnA_of (fun h=>fn111 (by simp) h) ?_
 have hS:=h.snd
 have hl:=s.x.len
 have hnc:s.x.hdr.nc=s.x.xs.length:=rfl
 have hnr:s.x.hdr.nr=s.x.regs.length:=rfl
 have h16:s.x.regs.length=16:=hS.r1.regs
 obtain⟨w,gw⟩:∃w,s.x.regs[r]?=some w:=⟨_,List.getElem?_eq_getElem (by omega)⟩
 have er:s.x.H.getR r=w:=getR_at gw
 obtain⟨r1,r2⟩:=getR_ok hS (r:=r) (by omega) (by omega)
 rw[er]at r1 r2
 by_cases hk:w.kind=2
 ·obtain⟨b0,b1,b2,b3⟩:=r2 hk
  obtain⟨j,hj⟩:=Int.eq_ofNat_of_zero_le b0
  obtain⟨wk,wn,wat⟩:=w
  dsimp only at hk hj b1
  subst hk hj
  obtain⟨y,gy,gc⟩:=HX.at (x:=s.x) (i:=j) (by omega)
  have hpl:=hS.r2.pl (List.mem_of_getElem? gc)
  repeat' (first
   |(refine k_L ?_;first|refine a_p rfl ?_|(refine k_l ?_;refine g_l rfl ?_)|(refine k_i ?_;refine g_i rfl rfl ?_)|(refine k_ls ?_;refine g_ls rfl ?_)|(refine k_st ?_;refine g_sw rfl rfl rfl rfl (Nat.le_of_ble_eq_true rfl) ?_)|(refine k_al ?_;refine a_al ?_))
   |refine a_n ?_
   |(refine k_V ?_;first|refine v_seq ?_|refine v_reg ?_|refine v_dreg ?_|refine v_ret ?_|refine v_skip ?_|refine v_cf rfl ?_)
   |refine sk_zero ?_
   |refine sk_succ ?_
   |refine wk_nil ?_
   |refine wk_cons ?_)
  exact fa_r (fun _ _=>rfl) (Pm.ent pmt) ⟨_,rfl,by omega,rfl⟩
 ·repeat' (first
   |(refine k_L ?_;first|refine a_p rfl ?_|(refine k_l ?_;refine g_l rfl ?_)|(refine k_i ?_;refine g_i rfl rfl ?_)|(refine k_ls ?_;refine g_ls rfl ?_)|(refine k_st ?_;refine g_sw rfl rfl rfl rfl (Nat.le_of_ble_eq_true rfl) ?_)|(refine k_al ?_;refine a_al ?_))
   |refine a_n ?_
   |(refine k_V ?_;first|refine v_rv ?_|refine v_seq ?_|refine v_reg ?_|(refine v_cn rfl (fun hb=>?_) (fun hb=>?_)<;>try(exfalso;omega)))
   |refine s_r ?_
   |refine sk_zero ?_
   |refine sk_succ ?_
   |refine wk_nil ?_
   |refine wk_cons ?_)
  exact fa_r (fun _ _=>rfl) (Pm.ent pmt) ⟨_,rfl,by omega,rfl⟩
theorem pairof_d{r:Nat}(h:DOk s B)(hc:Cod m ca cn)(hB:B≤800000000000000)(hr:r≤15):FnA Tryz.prog 110 [ptr pb,.int .i64 r] (dwA pb pc ph ca cn cc m s) (fun v As=>∃k s',v=.int .i64 k∧DOk s' (B+4)∧As=dwA pb pc ph ca cn cc m s'):=by
 refine fnA_of (fun h=>fn110 (by simp) h) ?_
 repeat' (first
  |(refine k_L ?_;first|refine a_p rfl ?_|(refine k_g ?_;first|refine a_gy rfl rfl ?_|refine a_gn rfl rfl ?_|(refine a_gd rfl (fun hb=>?_) (fun hb=>?_)<;>try(exfalso;omega)))|(refine k_l ?_;refine g_l rfl ?_)|(refine g_c rfl (pairs_d (s:=s) (r:=r) h hr) (fun v As' hq=>?_);obtain⟨k0,rfl,hk0,rfl⟩:=hq)|(refine g_c rfl (pick_d (s:=s) (n:=20) h hc (by omega) (by omega)) (fun v As' hq=>?_);obtain⟨k1,s1,rfl,hk1,h1,rfl⟩:=hq)|(refine g_c rfl (pick_d (s:=s1) (n:=k0) h1 hc (by omega) (by omega)) (fun v As' hq=>?_);obtain⟨k2,s2,rfl,hk2,h2,rfl⟩:=hq))
  |refine a_n ?_
  |(refine k_V ?_;first|refine v_seq ?_|refine v_reg ?_|refine v_ret ?_|refine v_skip ?_|refine v_ct rfl ?_|(refine v_cd rfl (fun hb=>?_) (fun hb=>?_)<;>try(exfalso;omega)))
  |refine s_r ?_)
 all_goals first
  |exact fa_r (fun _ _=>rfl) (Pm.ent pmt) ⟨_,s2,rfl,h2.up (by omega),rfl⟩
  |exact fa_r (fun _ _=>rfl) (Pm.ent pmt) ⟨_,s1,rfl,h1.up (by omega),rfl⟩
  |exact fa_r (fun _ _=>rfl) (Pm.ent pmt) ⟨_,s,rfl,h.up (by omega),rfl⟩
theorem size_d(h:DOk s B)(hc:Cod m ca cn)(hB:B≤800000000000000):FnA Tryz.prog 106 [ptr pb] (dwA pb pc ph ca cn cc m s) (fun v As=>∃k s',v=.int .i64 k∧DOk s' (B+4)∧As=dwA pb pc ph ca cn cc m s'):=by
 refine fnA_of (fun h=>fn106 (by simp) h) ?_
 repeat' (first
  |(refine k_L ?_;first|refine a_p rfl ?_|(refine k_l ?_;refine g_l rfl ?_)|(refine g_c rfl (pick_d (s:=s) (n:=16) h hc (by omega) (by omega)) (fun v As' hq=>?_);obtain⟨k1,s1,rfl,hk1,h1,rfl⟩:=hq)|(refine g_c rfl (pick_d (s:=s1) h1 hc (by omega) (by omega)) (fun v As' hq=>?_);obtain⟨k2,s2,rfl,hk2,h2,rfl⟩:=hq))
  |refine a_n ?_
  |(refine k_V ?_;first|refine v_seq ?_|refine v_reg ?_|refine v_bs ?_|refine v_ret ?_|refine v_skip ?_|(refine v_cd rfl (fun hb=>?_) (fun hb=>?_)<;>try(exfalso;omega)))
  |refine s_r ?_
  |refine b_r ?_)
 all_goals exact fa_r (fun _ _=>rfl) (Pm.ent pmt) ⟨_,s2,rfl,h2.up (by omega),rfl⟩
end
section
variable {pb pc ph:Nat} {ca:Option Addr} {cn cc:Nat} {m:Mem} {s1:DW} {B:Int}
theorem pairs_i{r:Int}(h1:DOk s1 B)(hr:0≤r∧r≤15):FnA Tryz.prog 111 [ptr pb,.int .i64 r] (dwA pb pc ph ca cn cc m s1) (fun v As=>∃k,v=.int .i64 k∧(0≤k∧k≤200)∧As=dwA pb pc ph ca cn cc m s1):=by
 obtain⟨r,rfl⟩:=Int.eq_ofNat_of_zero_le hr.1
 exact pairs_d h1 (by omega)
theorem pairof_i{r:Int}(h1:DOk s1 B)(hc:Cod m ca cn)(hB:B≤800000000000000)(hr:0≤r∧r≤15):FnA Tryz.prog 110 [ptr pb,.int .i64 r] (dwA pb pc ph ca cn cc m s1) (fun v As=>∃k s',v=.int .i64 k∧DOk s' (B+4)∧As=dwA pb pc ph ca cn cc m s'):=by
 obtain⟨r,rfl⟩:=Int.eq_ofNat_of_zero_le hr.1
 exact pairof_d h1 hc hB (by omega)
theorem act_d(h1:DOk s1 B)(hc:Cod m ca cn)(hB:B≤700000000000000):FnA Tryz.prog 62 [ptr pb] (dwA pb pc ph ca cn cc m s1) (fun v As=>∃s',DOk s' (B+20)∧As=dwA pb pc ph ca cn cc m s'):=by
 refine fnA_of (fun h=>fn62 (by simp) h) ?_
 repeat' (first
  |(refine k_L ?_;first|(refine k_ad ?_;refine g_ad rfl rfl ?_)|(refine k_su ?_;refine g_su rfl rfl ?_)|refine a_p rfl ?_|(refine k_l ?_;refine g_l rfl ?_)|(refine g_c rfl (pick_d h1 hc (by omega) (by omega)) (fun v As' hq=>?_);obtain⟨k,s1,rfl,hk,h1,rfl⟩:=hq)|(refine g_c rfl (size_d h1 hc (by omega)) (fun v As' hq=>?_);obtain⟨k,s1,rfl,h1,rfl⟩:=hq)|(refine g_c rfl (emit_d (b:=⟨2,_,0,0,_⟩) h1) (fun v As' hq=>?_);obtain⟨s1,h1,rfl⟩:=hq)|(refine g_c rfl (whole_d h1 hc (by omega)) (fun v As' hq=>?_);obtain⟨k,s1,rfl,h1,rfl⟩:=hq)|(refine g_c rfl (put_d h1) (fun v As' hq=>?_);obtain⟨s1,h1,rfl⟩:=hq)|(refine g_c rfl (pairof_i h1 hc (by omega) (by omega)) (fun v As' hq=>?_);obtain⟨k,s1,rfl,h1,rfl⟩:=hq)|(refine g_c rfl (pairs_i h1 (by omega)) (fun v As' hq=>?_);obtain⟨k,rfl,hk,rfl⟩:=hq))
  |refine a_n ?_
  |(refine k_V ?_;first|refine v_seq ?_|refine v_reg ?_|refine v_bs ?_|refine v_skip ?_|(refine v_cd rfl (fun hb=>?_) (fun hb=>?_)<;>try(exfalso;omega)))
  |refine b_n ?_)
 all_goals exact fa_n (fun _ _=>rfl) (Pm.ent pmt) ⟨s1,h1.up (by omega),rfl⟩
end
section
variable {pb pc ph:Nat} {ca:Option Addr} {cn cc:Nat} {m:Mem} {s1:DW} {B:Int}
theorem work_d(h1:DOk s1 B)(hc:Cod m ca cn)(hB:B≤700000000000000):FnA Tryz.prog 98 [ptr pb] (dwA pb pc ph ca cn cc m s1) (fun v As=>∃s',DOk s' (B+10)∧As=dwA pb pc ph ca cn cc m s'):=by
 refine fnA_of (fun h=>fn98 (by simp) h) ?_
 repeat' (first
  |(refine k_L ?_;first|refine a_p rfl ?_|(refine k_l ?_;refine g_l rfl ?_)|(refine g_c rfl (pick_d h1 hc (by omega) (by omega)) (fun v As' hq=>?_);obtain⟨k,s1,rfl,hk,h1,rfl⟩:=hq)|(refine g_c rfl (put_d h1) (fun v As' hq=>?_);obtain⟨s1,h1,rfl⟩:=hq))
  |refine a_n ?_
  |(refine k_V ?_;first|refine v_seq ?_|refine v_reg ?_|refine v_bs ?_|refine v_skip ?_|(refine v_cd rfl (fun hb=>?_) (fun hb=>?_)<;>try(exfalso;omega)))
  |refine b_n ?_)
 all_goals exact fa_n (fun _ _=>rfl) (Pm.ent pmt) ⟨s1,h1.up (by omega),rfl⟩
theorem ring_d(h1:DOk s1 B)(hc:Cod m ca cn)(hB:B≤600000000000000):FnA Tryz.prog 97 [ptr pb] (dwA pb pc ph ca cn cc m s1) (fun v As=>∃s',DOk s' (B+60)∧As=dwA pb pc ph ca cn cc m s'):=by
 refine fnA_of (fun h=>fn97 (by simp) h) ?_
 repeat' (first
  |(refine k_L ?_;first|refine a_p rfl ?_|(refine g_c rfl (put_d h1) (fun v As' hq=>?_);obtain⟨s1,h1,rfl⟩:=hq)|(refine g_c rfl (work_d h1 hc (by omega)) (fun v As' hq=>?_);obtain⟨s1,h1,rfl⟩:=hq))
  |refine a_n ?_
  |(refine k_V ?_;first|refine v_seq ?_|refine v_reg ?_)
  |refine s_n ?_)
 refine v_blk ?_
 refine v_loop (fun q:Int×DW=>[(0,SV.v (ptr pb)),(2,SV.v (.int .i64 q.1))]) (fun q=>dwA pb pc ph ca cn cc m q.2) (fun k q=>(k:Int)=4-q.1∧(1≤q.1∧q.1≤4)∧DOk q.2 (B+20+2*q.1)) ⟨_,(1,s1),⟨rfl,rfl,trivial⟩,Pm.ent pmt,rfl,by omega,h1.up (by omega)⟩ ?_
 rintro k ⟨i,s1⟩ ⟨hk0,hi,h1⟩
 dsimp only at hk0 hi h1⊢
 by_cases hin:i<4
 ·repeat' (first
   |(refine k_L ?_;first|(refine k_ad ?_;refine g_ad rfl rfl ?_)|refine a_p rfl ?_|(refine k_l ?_;refine g_l rfl ?_)|(refine g_c rfl (put_d h1) (fun v As' hq=>?_);obtain⟨s1,h1,rfl⟩:=hq)|(refine g_c rfl (pick_d h1 hc (by omega) (by omega)) (fun v As' hq=>?_);obtain⟨k,s1,rfl,hk,h1,rfl⟩:=hq))
   |refine a_n ?_
   |(refine k_V ?_;first|refine v_seq ?_|refine v_reg ?_|refine v_bs ?_|refine v_skip ?_|(refine v_cd rfl (fun hb=>?_) (fun hb=>?_)<;>try(exfalso;omega)))
   |refine s_n ?_)
  all_goals exact⟨(4-(i+1)).toNat,(i+1,s1),by omega,⟨rfl,rfl,trivial⟩,Pm.ent pmt,by show(((4-(i+1)).toNat:Nat):Int)=_;omega,⟨by show 1≤i+1;omega,by show i+1≤4;omega⟩,h1.up (by show _≤B+20+2*(i+1);omega)⟩
 ·repeat' (first
   |(refine k_L ?_;first|refine a_p rfl ?_|(refine g_c rfl (work_d h1 hc (by omega)) (fun v As' hq=>?_);obtain⟨s1,h1,rfl⟩:=hq)|(refine g_c rfl (put_d h1) (fun v As' hq=>?_);obtain⟨s1,h1,rfl⟩:=hq))
   |refine a_n ?_
   |(refine k_V ?_;first|refine v_seq ?_|refine v_reg ?_|refine v_exit ?_|(refine v_cd rfl (fun hb=>?_) (fun hb=>?_)<;>try(exfalso;omega))))
  all_goals exact fa_n (fun _ _=>rfl) (Pm.ent pmt) ⟨s1,h1.up (by omega),rfl⟩
end
end Go.Proofs.YtcjmodomfilagaaGreat.E
