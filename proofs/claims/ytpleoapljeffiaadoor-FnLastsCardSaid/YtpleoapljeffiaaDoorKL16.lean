/- A part of the proof. Conditions: none. -/
import Derived.Test.YtpleoapljeffiaaDoorKL15
import Derived.Test.YtpleoapljeffiaaDoorJfLasts
import Derived.Test.YtpleoapljeffiaaDoorCards
import Derived.Test.YtpleoapljeffiaaDoorTie
set_option linter.unusedVariables false
set_option linter.unusedSimpArgs false
set_option maxHeartbeats 8000000
set_option maxRecDepth 100000
namespace Go.Proofs.YtpleoapljeffiaaDoor.E
open Go
open Classical
theorem mlMid_add(u i:Nat):mlMid u (i+1)=mlMid u i++[⟨1,0,(i:Int)+1,1,0⟩]++[⟨12,0,0,1,0⟩]++[⟨1,1,0,1,0⟩]++[⟨8,0,1,0,0⟩]++[⟨2,2,0,0,100+((i:Int)+1)⟩]++[⟨8,1,2,0,0⟩]++[⟨22,0,0,u,0⟩]:=by
 rw[mlMid_succ]
 simp only[mlLoop,List.append_assoc,List.cons_append,List.nil_append]
theorem mlHead_add(n u:Nat):mlHead n u=mlMid u n++[⟨3,0,0,0,0⟩]++[⟨3,1,0,0,0⟩]++[⟨24,0,0,0,0⟩]++[⟨18,0,0,0,0⟩]:=by
 unfold mlHead
 simp only[List.append_assoc,List.cons_append,List.nil_append]
theorem mlDue_add{n kept u i:Nat}(h:i+1=kept):mlDue n kept u (i+1)=mlDue n kept u i++[⟨22,0,0,u,0⟩]++[⟨19,3,0,0,0⟩]++[⟨16,3,0,0,0⟩]++[⟨4,4,3,0,0⟩]:=by
 rw[mlDue_succ]
 simp only[mlNext,if_pos h,List.append_assoc,List.cons_append,List.nil_append]
theorem mlDue_add'{n kept u i:Nat}(h:¬i+1=kept):mlDue n kept u (i+1)=mlDue n kept u i++[⟨22,0,0,u,0⟩]++[⟨19,3,0,0,0⟩]++[⟨16,3,0,0,0⟩]:=by
 rw[mlDue_succ]
 simp only[mlNext,if_neg h,List.append_nil,List.append_assoc,List.cons_append,List.nil_append]
theorem mlL_add(n kept u:Nat):mlL n kept u=mlDue n kept u (n+1)++[⟨18,0,0,0,0⟩]++[⟨24,0,0,0,0⟩]++[⟨21,0,0,0,0⟩]++[⟨6,5,4,0,0⟩]++[⟨6,6,5,0,0⟩]++[⟨15,6,0,0,0⟩]:=by
 unfold mlL mlTail
 simp only[List.append_assoc,List.cons_append,List.nil_append]
theorem madeLasts_a{n kept u:Nat}{As:List Asr}(hn:1≤n∧n≤40)(hk:1≤kept∧kept≤n)(hu:u≤20):FnA Tryd.prog 11 [.int .i64 n,.int .i64 kept,.int .i64 u] As (fun v As'=>∃d:D,v=.slice d.a (mlL n kept u).length d.cap∧As'=slA 5 av d (mlL n kept u)::As):=by
 refine fnA_of (fun h=>fn11 (by simp) h) ?_
 repeat' (first
  |(refine k_L ?_;refine a_p rfl ?_)
  |refine a_n ?_
  |(refine k_V ?_;first|refine v_seq ?_|refine v_reg ?_)
  |refine s_n ?_)
 refine v_blk ?_
 refine v_loop (fun q:Nat×D=>[(0,SV.v (.int .i64 n)),(1,SV.v (.int .i64 kept)),(2,SV.v (.int .i64 u)),(7,SV.v (.slice q.2.a (mlMid u q.1).length q.2.cap)),(8,SV.v (.int .i64 ((q.1:Int)+1)))]) (fun q=>slA 5 av q.2 (mlMid u q.1)::As) (fun k q=>k=n-q.1∧q.1≤n) ⟨_,(0,⟨none,0⟩),⟨rfl,rfl,rfl,rfl,rfl,trivial⟩,ent_new (f:=av) (size:=5),rfl,Nat.zero_le _⟩ ?_
 rintro k ⟨i,d⟩ ⟨rfl,hi⟩
 dsimp only at hi⊢
 have hl:=mlMid_len u i
 by_cases hin:i<n
 ·repeat' (first
   |(refine k_L ?_;first|(refine k_ad ?_;refine g_ad rfl rfl ?_)|refine a_p rfl ?_|(refine k_bl ?_;refine a_bl rfl ?_)|(refine g_c rfl (l6add_a (by first|omega|(simp;omega))) (fun v As' hq=>?_);obtain⟨e',rfl,rfl⟩:=hq)|(refine g_ap (⟨2,2,0,0,100+((i:Int)+1)⟩:Act) av_len5 rfl rfl rfl (by omega) (hb:=by simp;omega) (fun e'=>?_)))
   |refine a_n ?_
   |(refine k_V ?_;first|refine v_seq ?_|refine v_reg ?_|refine v_bs ?_|refine v_skip ?_|(refine v_cd rfl (fun hb=>?_) (fun hb=>?_)<;>try(exfalso;omega)))
   |refine s_n ?_)
  exact⟨n-(i+1),(i+1,e'),by omega,⟨rfl,rfl,rfl,by dsimp only;rw[mlMid_add];rfl,by dsimp only;rw[Int.natCast_add];rfl,trivial⟩,by dsimp only;rw[mlMid_add];exact Ent.refl _,rfl,by dsimp only;omega⟩
 ·have hie:i=n:=by omega
  subst hie
  repeat' (first
   |(refine k_L ?_;first|refine a_p rfl ?_|(refine g_c rfl (l6add_a (by first|omega|(simp;omega))) (fun v As' hq=>?_);obtain⟨e',rfl,rfl⟩:=hq))
   |refine a_n ?_
   |(refine k_V ?_;first|refine v_seq ?_|refine v_reg ?_|refine v_exit ?_|(refine v_cd rfl (fun hb=>?_) (fun hb=>?_)<;>try(exfalso;omega)))
   |refine s_n ?_)
  refine v_blk ?_
  refine v_loop (fun q:Nat×D=>[(0,SV.v (.int .i64 i)),(1,SV.v (.int .i64 kept)),(2,SV.v (.int .i64 u)),(7,SV.v (.slice q.2.a (mlDue i kept u q.1).length q.2.cap)),(9,SV.v (.int .i64 ((q.1:Int)+1)))]) (fun q=>slA 5 av q.2 (mlDue i kept u q.1)::As) (fun k q=>k=i+1-q.1∧q.1≤i+1) ⟨_,(0,e'),⟨rfl,rfl,rfl,by dsimp only;rw[show mlDue i kept u 0=mlHead i u from by unfold mlDue;simp,mlHead_add];rfl,rfl,trivial⟩,by dsimp only;rw[show mlDue i kept u 0=mlHead i u from by unfold mlDue;simp,mlHead_add];exact Ent.refl _,rfl,Nat.zero_le _⟩ ?_
  rintro k ⟨j,d⟩ ⟨rfl,hj⟩
  dsimp only at hj⊢
  have hl2:=mlDue_len i kept u j
  by_cases hin2:j<i+1
  ·by_cases hjk:j+1=kept
   ·have hjk':(j:Int)+1=kept:=by omega
    repeat' (first
     |(refine k_L ?_;first|(refine k_ad ?_;refine g_ad rfl rfl ?_)|refine a_p rfl ?_|(refine g_c rfl (l6add_a (by first|omega|(simp;omega))) (fun v As' hq=>?_);obtain⟨e',rfl,rfl⟩:=hq))
     |refine a_n ?_
     |(refine k_V ?_;first|refine v_seq ?_|refine v_reg ?_|refine v_bs ?_|refine v_skip ?_|(refine v_cd rfl (fun hb=>?_) (fun hb=>?_)<;>try(exfalso;omega)))
     |refine s_n ?_)
    exact⟨i+1-(j+1),(j+1,e'),by omega,⟨rfl,rfl,rfl,by dsimp only;rw[mlDue_add hjk];rfl,by dsimp only;rw[Int.natCast_add];rfl,trivial⟩,by dsimp only;rw[mlDue_add hjk];exact Ent.refl _,rfl,by dsimp only;omega⟩
   ·have hjk':¬(j:Int)+1=kept:=by omega
    repeat' (first
     |(refine k_L ?_;first|(refine k_ad ?_;refine g_ad rfl rfl ?_)|refine a_p rfl ?_|(refine g_c rfl (l6add_a (by first|omega|(simp;omega))) (fun v As' hq=>?_);obtain⟨e',rfl,rfl⟩:=hq))
     |refine a_n ?_
     |(refine k_V ?_;first|refine v_seq ?_|refine v_reg ?_|refine v_bs ?_|refine v_skip ?_|(refine v_cd rfl (fun hb=>?_) (fun hb=>?_)<;>try(exfalso;omega)))
     |refine s_n ?_)
    exact⟨i+1-(j+1),(j+1,e'),by omega,⟨rfl,rfl,rfl,by dsimp only;rw[mlDue_add' hjk];rfl,by dsimp only;rw[Int.natCast_add];rfl,trivial⟩,by dsimp only;rw[mlDue_add' hjk];exact Ent.refl _,rfl,by dsimp only;omega⟩
  ·have hje:j=i+1:=by omega
   subst hje
   repeat' (first
    |(refine k_L ?_;first|(refine k_ad ?_;refine g_ad rfl rfl ?_)|refine a_p rfl ?_|(refine g_c rfl (l6add_a (by first|omega|(simp;omega))) (fun v As' hq=>?_);obtain⟨e',rfl,rfl⟩:=hq))
    |refine a_n ?_
    |(refine k_V ?_;first|refine v_seq ?_|refine v_reg ?_|refine v_ret ?_|refine v_exit ?_|(refine v_cd rfl (fun hb=>?_) (fun hb=>?_)<;>try(exfalso;omega))))
   exact fa_r (fun _ _=>rfl) (Ent.refl _) ⟨e',by rw[mlL_add],by rw[mlL_add];rfl⟩
theorem fnLasts_q{ca:Option Addr}{cn cc:Nat}{m:Mem}(hf:Frm m)(hc:Cod m ca cn):Qt Tryd.prog 4 [.slice ca cn cc] m (.bool true):=by
 have hbd:=hc.bd
 refine qt_of (fnA_of (fun h=>fn4 (by simp) h) ?_)
 by_cases hn:(cn:Int)>1048576
 ·repeat' (first
   |(refine k_L ?_;refine a_p rfl ?_)
   |refine a_n ?_
   |(refine k_V ?_;first|refine v_rv ?_|refine v_seq ?_|refine v_reg ?_|(refine v_cd rfl (fun hb=>?_) (fun hb=>?_)<;>try(exfalso;omega)))
   |refine s_r ?_)
  exact fa_q (by simp) (fun _ _=>rfl) rfl
 obtain⟨a,ha,qa⟩:=wByte_q (cc:=cc) (i:=0) hc (by omega)
 obtain⟨b,hbb,qb⟩:=wByte_q (cc:=cc) (i:=1) hc (by omega)
 obtain⟨c,hcc,qc⟩:=wByte_q (cc:=cc) (i:=2) hc (by omega)
 obtain⟨n,en⟩:∃n:Nat,a.tmod 40=n:=⟨_,(Int.toNat_of_nonneg (Int.tmod_nonneg _ ha.1)).symm⟩
 obtain⟨u,eu⟩:∃u:Nat,c.tmod 21=u:=⟨_,(Int.toNat_of_nonneg (Int.tmod_nonneg _ hcc.1)).symm⟩
 have n40:=Int.tmod_lt_of_pos a (by omega:(0:Int)<40)
 have u20:=Int.tmod_lt_of_pos c (by omega:(0:Int)<21)
 rw[en]at n40
 rw[eu]at u20
 have e1:(1:Int)+n=((n+1:Nat):Int):=by omega
 obtain⟨k,ek⟩:∃k:Nat,b.tmod ((n+1:Nat):Int)=k:=⟨_,(Int.toNat_of_nonneg (Int.tmod_nonneg _ hbb.1)).symm⟩
 have kn:=Int.tmod_lt_of_pos b (by omega:(0:Int)<((n+1:Nat):Int))
 rw[ek]at kn
 have ek':b.tmod ((1:Int)+n)=k:=by rw[e1];exact ek
 have e2:(1:Int)+k=((k+1:Nat):Int):=by omega
 have hI:=nw_im (H:=Heap.nw 2000) (nw_sound (by omega)) rfl rfl rfl
 have hll:=mlDue_len (n+1) (k+1) u (n+1+1)
 have hlm:(mlL (n+1) (k+1) u).length=(mlDue (n+1) (k+1) u (n+1+1)).length+6:=by unfold mlL mlTail;simp
 have hrun:=(hI.run (mlL (n+1) (k+1) u) (by show 0+_<_;omega)).1
 obtain⟨k1,k2,k3,k4,k5⟩:=lasts_ok (n:=n+1) (kept:=k+1) (u:=u) (by omega) (by omega) (by omega)
 change ansL (Heap.nw 2000) (mlL (n+1) (k+1) u)=ansI ⟨2000,List.replicate 16 W0,[]⟩ (mlL (n+1) (k+1) u)at hrun
 rw[←hrun]at k1 k2 k3 k4 k5
 have hlen:(mlL (n+1) (k+1) u).length=(ansL (Heap.nw 2000) (mlL (n+1) (k+1) u)).length:=(ansL_len _ _).symm
 have hle:(mlL (n+1) (k+1) u).length≤1000:=by omega
 repeat' (first
  |(refine k_L ?_;first|(refine k_ad ?_;refine g_ad rfl rfl ?_)|(refine k_c ?_;first|refine a_cq rfl (fun m hm=>qa _ (ro_of hm pmt)) ?_|refine a_cq rfl (fun m hm=>qb _ (ro_of hm pmt)) ?_|refine a_cq rfl (fun m hm=>qc _ (ro_of hm pmt)) ?_)|(refine rem_q rfl rfl (by omega) en (by omega) ?_)|(refine rem_q rfl rfl (by omega) eu (by omega) ?_)|(refine rem_q rfl rfl (by omega) ek' (by omega) ?_)|(refine b_p rfl ?_))
  |refine a_n ?_
  |(refine k_V ?_;first|refine v_seq ?_|refine v_reg ?_|refine v_skip ?_|(refine v_cd rfl (fun hb=>?_) (fun hb=>?_)<;>try(exfalso;omega))))
 rw[e1,e2]
 refine g_c rfl (madeLasts_a (n:=n+1) (kept:=k+1) (u:=u) (As:=[ro m]) (by omega) (by omega) (by omega)) (fun v As' hq=>?_)
 obtain⟨d,rfl,rfl⟩:=hq
 repeat' (first
  |(refine k_L ?_;first|refine a_p rfl ?_|(refine k_st ?_;refine g_sw rfl rfl rfl rfl (Nat.le_of_ble_eq_true rfl) ?_)|(refine k_al ?_;refine a_al ?_)|(refine g_c rfl (play_a (m:=m) (acts:=mlL (n+1) (k+1) u) (d:=d) (room:=2000) (fun a b x _ h=>act_a hf h) hle (by omega)) (fun v As' hq=>?_);obtain⟨z,sd,rfl,rfl,hz⟩:=hq))
  |refine a_n ?_
  |(refine k_V ?_;first|refine v_seq ?_|refine v_reg ?_)
  |refine sk_zero ?_
  |refine sk_succ ?_
  |refine wk_nil ?_
  |refine wk_cons ?_)
 refine g_c rfl (wNums_a (op:=16) hlen hle) (fun v As' hq=>?_)
 obtain⟨g1,rfl,rfl⟩:=hq
 rw[k1]
 repeat' (first
  |(refine k_L ?_;refine a_p rfl ?_)
  |refine a_n ?_
  |(refine k_V ?_;first|refine v_seq ?_|refine v_reg ?_))
 refine g_c rfl (wNums_a (op:=19) hlen hle) (fun v As' hq=>?_)
 obtain⟨g2,rfl,rfl⟩:=hq
 rw[k2]
 generalize hK:(List.range (n+1+1)).map (fun j:Nat=>if j<n+1 then(j:Int)+1 else 0)=Ks
 generalize hD:(List.range (n+1+1)).map (fun j:Nat=>if j<n+1 then(1:Int)else 0)=Ds
 have lK:Ks.length=n+1+1:=by rw[←hK];simp
 have lD:Ds.length=n+1+1:=by rw[←hD];simp
 have gD:Ds[n+1]?=some 0:=by rw[←hD,List.getElem?_map,List.getElem?_range (by omega)];simp
 have gKi:∀i:Nat,i<n+1→Ks[i]?=some ((i:Int)+1):=fun i hi=>by rw[←hK,List.getElem?_map,List.getElem?_range (by omega)];simp[hi]
 have gDi:∀i:Nat,i<n+1→Ds[i]?=some 1:=fun i hi=>by rw[←hD,List.getElem?_map,List.getElem?_range (by omega)];simp[hi]
 repeat' (first
  |(refine k_L ?_;first|(refine k_ad ?_;refine g_ad rfl rfl ?_)|refine a_p rfl ?_|(refine k_g ?_;first|refine a_gy rfl rfl ?_|(refine a_gne rfl (fun hb=>?_) (fun hb=>?_)<;>try(exfalso;omega)))|(refine k_l ?_;refine g_l rfl ?_)|(refine k_i ?_;refine g_i rfl rfl ?_))
  |refine a_n ?_
  |(refine k_V ?_;first|refine v_seq ?_|refine v_reg ?_|refine v_skip ?_|refine v_cf rfl ?_)
  |refine s_n ?_)
 refine v_blk ?_
 refine v_loop (fun q:Nat=>[(3,SV.v (.int .i64 ((n+1:Nat):Int))),(4,SV.v (.int .i64 ((k+1:Nat):Int))),(5,SV.v (.slice d.a (mlL (n+1) (k+1) u).length d.cap)),(6,SV.box (.bool true::.slice sd.a (ansL (Heap.nw 2000) (mlL (n+1) (k+1) u)).length sd.cap::z.row)),(7,SV.v (.slice g1.a Ks.length g1.cap)),(8,SV.v (.slice g2.a Ds.length g2.cap)),(9,SV.v (.int .i64 q))]) (fun _=>[slA 1 iv g2 Ds,slA 1 iv g1 Ks,slA 5 av d (mlL (n+1) (k+1) u),slA 2 anv sd (ansL (Heap.nw 2000) (mlL (n+1) (k+1) u)),ro m]) (fun t q=>t=n+1-q∧q≤n+1) ⟨_,0,⟨rfl,rfl,rfl,rfl,rfl,rfl,rfl,trivial⟩,Pm.ent pmt,rfl,Nat.zero_le _⟩ ?_
 rintro t i ⟨rfl,hi⟩
 by_cases hin:i<n+1
 ·have x1:=gKi i hin
  have x2:=gDi i hin
  repeat' (first
   |(refine k_L ?_;first|(refine k_ad ?_;refine g_ad rfl rfl ?_)|refine a_p rfl ?_|(refine k_g ?_;first|refine a_gy rfl rfl ?_|(refine a_gne rfl (fun hb=>?_) (fun hb=>?_)<;>try(exfalso;omega)))|(refine k_l ?_;refine g_l rfl ?_)|(refine k_i ?_;refine g_i rfl rfl ?_))
   |refine a_n ?_
   |(refine k_V ?_;first|refine v_seq ?_|refine v_reg ?_|refine v_bs ?_|refine v_skip ?_|refine v_cf rfl ?_|(refine v_cd rfl (fun hb=>?_) (fun hb=>?_)<;>try(exfalso;omega)))
   |refine s_n ?_)
  exact⟨n+1-(i+1),i+1,by omega,⟨rfl,rfl,rfl,rfl,rfl,rfl,rfl,trivial⟩,Pm.ent pmt,rfl,by omega⟩
 ·have hie:i=n+1:=by omega
  subst hie
  repeat' (first
   |(refine k_L ?_;refine a_p rfl ?_)
   |refine a_n ?_
   |(refine k_V ?_;first|refine v_seq ?_|refine v_reg ?_|refine v_exit ?_|(refine v_cd rfl (fun hb=>?_) (fun hb=>?_)<;>try(exfalso;omega))))
  refine g_c rfl (wNums_a (op:=18) hlen hle) (fun v As' hq=>?_)
  obtain⟨g3,rfl,rfl⟩:=hq
  rw[k3]
  repeat' (first
   |(refine k_L ?_;first|refine a_p rfl ?_|(refine k_g ?_;refine a_gy rfl rfl ?_)|(refine a_ns (f:=iv) [((n+1:Nat):Int),0] iv_len rfl rfl rfl (by omega) (fun e he=>?_);obtain⟨ea,ec⟩:=e;dsimp only at he;subst he;refine a_cq rfl (fun m' hm=>wInts_t (d:=g3) (e:=⟨ea,2⟩) (xs:=[((n+1:Nat):Int),0]) (sep_has hm pmt) (sep_has hm pmt)) ?_))
   |refine a_n ?_)
  refine g_c rfl (wNums_a (op:=21) hlen hle) (fun v As' hq=>?_)
  obtain⟨g4,rfl,rfl⟩:=hq
  rw[k4]
  repeat' (first
   |(refine k_L ?_;first|refine a_p rfl ?_|(refine k_g ?_;refine a_gy rfl rfl ?_)|(refine a_ns (f:=iv) [4] iv_len rfl rfl rfl (by omega) (fun e he=>?_);obtain⟨ea,ec⟩:=e;dsimp only at he;subst he;refine a_gy rfl rfl ?_;refine a_cq rfl (fun m' hm=>wInts_t (d:=g4) (e:=⟨ea,1⟩) (xs:=[4]) (sep_has hm pmt) (sep_has hm pmt)) ?_))
   |refine a_n ?_)
  refine g_c rfl (wNums_a (op:=15) hlen hle) (fun v As' hq=>?_)
  obtain⟨g5,rfl,rfl⟩:=hq
  rw[k5]
  repeat' (first
   |(refine k_L ?_;first|(refine k_ad ?_;refine g_ad rfl rfl ?_)|refine a_p rfl ?_|(refine k_g ?_;refine a_gy rfl rfl ?_)|(refine a_ns (f:=iv) [100+((k+1:Nat):Int)] iv_len rfl rfl rfl (by omega) (fun e he=>?_);obtain⟨ea,ec⟩:=e;dsimp only at he;subst he;refine a_gy rfl rfl ?_;refine a_cq rfl (fun m' hm=>wInts_t (d:=g5) (e:=⟨ea,1⟩) (xs:=[100+((k+1:Nat):Int)]) (sep_has hm pmt) (sep_has hm pmt)) ?_))
   |refine a_n ?_
   |(refine k_V ?_;refine v_ret ?_))
  exact fa_r (As':=[ro m]) (fun _ _=>rfl) (Pm.ent pmt) ⟨rfl,rfl⟩
end Go.Proofs.YtpleoapljeffiaaDoor.E
namespace Go.Proofs.YtpleoapljeffiaaDoor.E
open Go Go.ChangeShapes Go.WideShapes Go.ChangeAt Go.RowKit
theorem door_metLasts(os:Os)(args:Array Value):laidMetH Tryd.prog Rows.fnLastsRow.laid ((World.doorLaid Tryd.prog 38 os).forCall (fun _ _=>0) ⟨#[],args,[]⟩).memory:=
 laidMetH_of_parts3 (fuel:=8) (laidMet_of_run' 8 (by kernel_rfl) (by kernel_rfl)) (by kernel_rfl) (by kernel_rfl)
theorem liftedLasts(os:Os)(started:os.Started)(H:Type)(enc:TypeId×Value→H):
 ReturnsInHanded {} Tryd.checked os 4 .any (fun w args=>(Rows.fnLastsSpec.pre enc Tryd.prog Tryd.f4 [] false w args∧laidMetH Tryd.prog Rows.fnLastsRow.laid w)∧sizedMet enc Tryd.prog Tryd.f4 (OpenSpec.ofChange Rows.fnLastsSpec) false w args)
  (Rows.fnLastsSpec.post enc Tryd.prog Tryd.f4 false true false false):=by
 refine returnsInHanded_of_change_and (C:=Tryd.checked) (X:=fun w _=>laidMetH Tryd.prog Rows.fnLastsRow.laid w) (fun _ _ _ hh h=>h.of_heap hh) ownknob started (by kernel_rfl) Tryd.func4
  (ChangeSpec.witness_shaped (enc:=enc) (C:=Tryd.checked) (os:=os) (X:=fun w _=>laidMetH Tryd.prog Rows.fnLastsRow.laid w) false (World.doorLaid Tryd.prog 38 os) #[.slice none 0 0] 8 rfl (World.shaped_of_RefB (by kernel_rfl) (by kernel_rfl)) (by kernel_rfl) (by kernel_rfl) (by kernel_rfl) (door_metLasts os _)) ?_
 intro W base args ds gs before hval0 hW _ _ hL _
 have hval:∀(j:Nat) t v,Tryd.f4.params[j]?=some t→args[j]?=some v→Value.okWide Tryd.prog W .any base t v:=hval0
 have hW':=hW
 obtain⟨p,q,hA0,hV,rfl,hfz,hnd⟩:=hW
 have hA:DataW.TrodAll enc Tryd.prog W 0 (fun _=>true) true [22] args.toList ds p:=hA0
 obtain⟨v0,d0,rfl,rfl,h0⟩:=trodAll_one hA
 obtain⟨sa,n,cap,rfl⟩:=okWide_slice und_bytes (hval 0 22 v0 rfl rfl)
 clear hA0 hval0
 have h0k:=h0
 obtain⟨fuel,h0'⟩:=h0
 have hc:=open_bytes h0'
 have hlt0:∀x∈p,x.block<W.heap.size:=fun x hx=>by simpa using hW'.lt x (by simp[hx])
 have hq:Fn Tryd.prog 4 [.slice sa n cap] (memOf W) (fun v M'=>v=.bool true∧(memOf W).le M'):=(fnLasts_q (frm_of_met rfl hL) hc).mono fun v M' ⟨h1,h2⟩=>⟨h1,by rw[h2];exact Mem.le_refl _⟩
 refine(row_of hq).mono fun e W' ⟨he,bel⟩=>?_
 subst he
 have hT0:=Below.trod laid (by kernel_rfl) (of_decide_eq_true (by kernel_rfl)) h0k bel hlt0
 obtain ⟨_, _, _, _, g1, _, rfl, _⟩ := trodVars_one (show DataW.TrodVars enc Tryd.prog W (fun _ => true) ["loop.example/spool/impl.forms"] gs q from hV)
 have hV2:=Below.trodVars laid bel (by kernel_rfl) hV
 exact⟨_,rfl,_,_,_,_,_,_,hW',trodAll_mk1 (shut_bool und_bool _),trodAll_mk1 hT0,hV2,bel.frame _,fun h=>by cases h⟩
end Go.Proofs.YtpleoapljeffiaaDoor.E
namespace Go.Proofs.YtpleoapljeffiaaDoor
open Go Go.ChangeShapes Go.WideShapes Go.ChangeAt Go.RowKit
theorem fnLasts_row:Rows.FnLastsSaid:=
 OpenClaim.holds_of_wide 4 Tryd.f4 rfl rfl rfl rfl rfl rfl rfl ⟨rfl,rfl,rfl,rfl,rfl⟩ rfl rfl rfl rfl rfl (by kernel_rfl) Tryd.func4 jfLasts
  (of_decide_eq_true (by kernel_rfl)) (by unfold Func.isWrapper;first|(rw[if_pos (by decide+kernel)];kernel_rfl)|(rw[if_neg (by decide+kernel)];exact⟨rfl,rfl⟩))
  (fun os started H enc _=>E.liftedLasts os started H enc)
theorem fnLasts_holds:Rows.FnLastsCardSaid:=
 Claim7.holds_tied_plain_at .later [] [.data] true Rows.fnLastsCard.stood.harness false
  fnLasts_row (fun _ h=>by cases h) (by kernel_rfl) (fun _ h=>by cases h) fnLasts_row_tie rfl ⟨rfl,rfl⟩ (by kernel_rfl) rfl
  (fun f fn hf hfn=>by
    obtain rfl : f = 4 := Option.some.inj ((show Tryd.prog.funcNamed "loop.example/spool/laws.FnLasts" = some 4 by kernel_rfl).symm.trans hf) |>.symm
    obtain rfl:fn=Tryd.f4:=(Option.some.inj (Tryd.func4.symm.trans hfn)).symm
    exact⟨by kernel_rfl,fun j t ht=>by
     have hm:t∈[22]:=by
      have:=Array.mem_of_getElem? ht
      rw[←Array.mem_toList_iff]at this
      exact this
     have hall:([22].all fun u=> !Tryd.prog.wantsStandIn u)=true:=by kernel_rfl
     exact(show Tryd.prog.wantsStandIn t=false by simpa using List.all_eq_true.1 hall t hm)⟩)
  (by kernel_rfl)
end Go.Proofs.YtpleoapljeffiaaDoor
