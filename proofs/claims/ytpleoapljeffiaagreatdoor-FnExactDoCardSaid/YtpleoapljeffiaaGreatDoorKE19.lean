/- A part of the proof. Conditions: none. -/
import Derived.Test.YtpleoapljeffiaaGreatDoorKE18
set_option linter.unusedVariables false
set_option linter.unusedSimpArgs false
set_option maxHeartbeats 8000000
set_option maxRecDepth 100000
namespace Go.Proofs.YtpleoapljeffiaaGreatDoor.E
open Go
open Classical
theorem finish_a{a:Nat}{x:HX}(h:Sound x.H):FnA Tryz.prog 171 [ptr a] (hp a x) (fun v As=>∃z:HX,v=.int .i64 (outN x.H)∧As=hp a z∧z.H=x.H.outH):=by
 obtain⟨ho,hN⟩:=outN_ok h
 refine fnA_of (fun h=>fn171 (by simp) h) ?_
 repeat' (first|refine xx ?_|fail)
 refine v_blk ?_
 refine v_loop (fun q:Nat×HX=>[(0,.v (ptr a)),(3,.v (.int .i64 q.1))]) (fun q=>hp a q.2) (fun k q=>k=outN x.H-q.1∧q.1≤outN x.H∧q.2.H=iterU q.1 x.H) ⟨_,(0,x),⟨rfl,rfl,trivial⟩,Ent.refl _,rfl,Nat.zero_le _,rfl⟩ ?_
 rintro k ⟨j,z⟩ ⟨rfl,hj,hz⟩
 simp only at hj hz
 dsimp only
 have hs:Sound z.H:=by rw[hz];exact iterU_sound j h
 have hp:=out_phase h hj
 rw[←hz]at hp
 have hph:z.hdr.phase=z.H.phase:=rfl
 by_cases e:j=outN x.H
 ·have e0:=hp.2 e
  repeat' (first|refine xx ?_|(refine xy ?_ ?_<;>intro hb<;>try(exfalso;omega))|fail)
  refine fa_r (fun _ _=>rfl) (Pm.ent (fin z)) ⟨z,?_,rfl,?_⟩
  ·rw[e]
  ·rw[hz,e];rfl
 ·have e0:z.H.phase≠0:=fun h'=>e (hp.1 h')
  repeat' (first|refine xx ?_|(refine xy ?_ ?_<;>intro hb<;>try(exfalso;omega))|(refine k_L ?_;(refine g_c rfl (unit_a hs e0) (fun v As' hq=>?_);obtain⟨u,rfl,hu⟩:=hq))|fail)
  refine⟨outN x.H-(j+1),(j+1,u),by omega,⟨rfl,rfl,trivial⟩,Pm.ent pmt,rfl,by show j+1≤outN x.H;omega,?_⟩
  show u.H=iterU (j+1) x.H
  rw[iterU_succ,←hz];exact hu
theorem l3out_a{a:Nat}{x:HX}(h:Sound x.H):FnA Tryz.prog 105 [ptr a] (hp a x) (fun v As=>∃z:HX,v=.int .i64 (outN x.H)∧As=hp a z∧z.H=x.H.outH):=by
 obtain⟨ho,hN⟩:=outN_ok h
 refine fnA_of (fun h=>fn105 (by simp) h) ?_
 repeat' (first|refine xx ?_|fail)
 refine v_blk ?_
 refine v_loop (fun q:Nat×HX=>[(0,.v (ptr a)),(3,.v (.int .i64 q.1))]) (fun q=>hp a q.2) (fun k q=>k=outN x.H-q.1∧q.1≤outN x.H∧q.2.H=iterU q.1 x.H) ⟨_,(0,x),⟨rfl,rfl,trivial⟩,Ent.refl _,rfl,Nat.zero_le _,rfl⟩ ?_
 rintro k ⟨j,z⟩ ⟨rfl,hj,hz⟩
 simp only at hj hz
 dsimp only
 have hs:Sound z.H:=by rw[hz];exact iterU_sound j h
 have hp:=out_phase h hj
 rw[←hz]at hp
 have hph:z.hdr.phase=z.H.phase:=rfl
 by_cases e:j=outN x.H
 ·have e0:=hp.2 e
  repeat' (first|refine xx ?_|(refine xy ?_ ?_<;>intro hb<;>try(exfalso;omega))|fail)
  refine fa_r (fun _ _=>rfl) (Pm.ent (fin z)) ⟨z,?_,rfl,?_⟩
  ·rw[e]
  ·rw[hz,e];rfl
 ·have e0:z.H.phase≠0:=fun h'=>e (hp.1 h')
  repeat' (first|refine xx ?_|(refine xy ?_ ?_<;>intro hb<;>try(exfalso;omega))|(refine k_L ?_;(refine g_c rfl (l3unit_a hs e0) (fun v As' hq=>?_);obtain⟨u,rfl,hu⟩:=hq))|fail)
  refine⟨outN x.H-(j+1),(j+1,u),by omega,⟨rfl,rfl,trivial⟩,Pm.ent pmt,rfl,by show j+1≤outN x.H;omega,?_⟩
  show u.H=iterU (j+1) x.H
  rw[iterU_succ,←hz];exact hu
theorem begin_H{x:HX}:x.begin.H=x.H.beginH:=by
 unfold HX.begin Heap.beginH
 by_cases e:x.phase=0
 ·rw[if_pos e,if_pos (show x.H.phase=0 from e)];exact enter_H
 ·rw[if_neg e,if_neg (show ¬x.H.phase=0 from e)]
theorem round_a{a:Nat}{x:HX}(h:Sound x.H):FnA Tryz.prog 160 [ptr a] (hp a x) (fun v As=>∃z:HX,As=hp a z∧z.H=x.H.roundH):=by
 obtain⟨o1,o2⟩:=outH_ok h
 refine fnA_of (fun h=>fn160 (by simp) h) ?_
 repeat' (first|refine xx ?_|fail)
 refine g_c rfl (finish_a h) (fun v As' hq=>?_)
 obtain⟨z,rfl,rfl,hz⟩:=hq
 have zb:z.begin.H=x.H.outH.enterH 1:=by rw[begin_H,hz];unfold Heap.beginH;rw[if_pos o2]
 repeat' (first|refine xx ?_|(refine k_L ?_;(refine g_c rfl (begin_a (x:=z)) (fun v As' hq=>?_);subst hq))|fail)
 refine g_c rfl (finish_a (x:=z.begin) (by rw[zb];exact begin_sound o1 o2)) (fun v As' hq=>?_)
 obtain⟨u,rfl,rfl,hu⟩:=hq
 repeat' (first|refine xx ?_|(refine xy ?_ ?_<;>intro hb<;>try(exfalso;omega))|fail)
 exact fa_n (fun _ _=>rfl) (Pm.ent (fin u)) ⟨_,rfl,by rw[hu,zb];rfl⟩
theorem l3round_a{a:Nat}{x:HX}(h:Sound x.H):FnA Tryz.prog 65 [ptr a] (hp a x) (fun v As=>∃z:HX,As=hp a z∧z.H=x.H.roundH):=by
 obtain⟨o1,o2⟩:=outH_ok h
 refine fnA_of (fun h=>fn65 (by simp) h) ?_
 repeat' (first|refine xx ?_|fail)
 refine g_c rfl (l3out_a h) (fun v As' hq=>?_)
 obtain⟨z,rfl,rfl,hz⟩:=hq
 have zb:(z.ph 1 0).H=x.H.outH.enterH 1:=by rw[←hz];exact ph_H rfl
 repeat' (first|refine xx ?_|(refine k_L ?_;(refine g_c rfl (l3begin_a (x:=z)) (fun v As' hq=>?_);subst hq))|fail)
 refine g_c rfl (l3out_a (x:=z.ph 1 0) (by rw[zb];exact begin_sound o1 o2)) (fun v As' hq=>?_)
 obtain⟨u,rfl,rfl,hu⟩:=hq
 repeat' (first|refine xx ?_|(refine xy ?_ ?_<;>intro hb<;>try(exfalso;omega))|fail)
 exact fa_n (fun _ _=>rfl) (Pm.ent (fin u)) ⟨_,rfl,by rw[hu,zb];rfl⟩
theorem step_a{a:Nat}{x:HX}{n:Int}(h:Sound x.H)(hn:0≤n∧n≤1000000000000):FnA Tryz.prog 159 [ptr a,.int .i64 n] (hp a x) (fun v As=>∃z:HX,v=.int .i64 (min n.toNat (outN x.H):Nat)∧As=hp a z∧z.H=iterU (min n.toNat (outN x.H)) x.H):=by
 obtain⟨ho,hN⟩:=outN_ok h
 refine fnA_of (fun h=>fn159 (by simp) h) ?_
 repeat' (first|refine xx ?_|fail)
 generalize hm:min n.toNat (outN x.H)=mx
 have hm1:mx≤outN x.H:=by omega
 have hm2:(mx:Int)≤n:=by omega
 refine v_mono (Q:=seqA (Jx (fun z:HX=>[(0,.v (ptr a)),(5,.v (.int .i64 mx))]) (fun z=>hp a z) (fun z=>z.H=iterU mx x.H)) (fun _ _ _=>False)) ?_ ?_
 ·refine v_blk ?_
  refine v_loop (fun q:Nat×HX=>[(0,.v (ptr a)),(1,.v (.int .i64 n)),(5,.v (.int .i64 q.1))]) (fun q=>hp a q.2) (fun k q=>k=mx-q.1∧q.1≤mx∧q.2.H=iterU q.1 x.H) ⟨_,(0,x),⟨rfl,rfl,rfl,trivial⟩,Ent.refl _,rfl,Nat.zero_le _,rfl⟩ ?_
  rintro k ⟨j,z⟩ ⟨rfl,hj,hz⟩
  simp only at hj hz
  dsimp only
  have hs:Sound z.H:=by rw[hz];exact iterU_sound j h
  have hp:=out_phase h (j:=j) (by omega)
  rw[←hz]at hp
  have hph:z.hdr.phase=z.H.phase:=rfl
  by_cases e:j=mx
  ·subst e
   by_cases e1:(j:Int)<n
   ·have e0:z.H.phase=0:=hp.2 (by omega)
    repeat' (first|refine xx ?_|(refine xy ?_ ?_<;>intro hb<;>try(exfalso;omega))|fail)
    exact j_i z hz
   ·repeat' (first|refine xx ?_|(refine xy ?_ ?_<;>intro hb<;>try(exfalso;omega))|fail)
    exact j_i z hz
  ·have e0:z.H.phase≠0:=fun h'=>by have:=hp.1 h';omega
   repeat' (first|refine xx ?_|(refine xy ?_ ?_<;>intro hb<;>try(exfalso;omega))|(refine k_L ?_;(refine g_c rfl (unit_a hs e0) (fun v As' hq=>?_);obtain⟨u,rfl,hu⟩:=hq))|fail)
   refine⟨mx-(j+1),(j+1,u),by omega,⟨rfl,rfl,rfl,trivial⟩,Pm.ent pmt,rfl,by show j+1≤mx;omega,?_⟩
   show u.H=iterU (j+1) x.H
   rw[iterU_succ,←hz];exact hu
 rintro y S' As' hq
 cases y with
 |ret=>exact hq.elim
 |ext i=>exact hq.elim
 |nrm=>
 obtain⟨z,hl',he',hz⟩:=hq
 refine v_weak _ hl' (VA.ent he' ?_)
 repeat' (first|refine xx ?_|fail)
 exact fa_r (fun _ _=>rfl) (Pm.ent (fin z)) ⟨z,rfl,rfl,hz⟩
theorem l3step_a{a:Nat}{x:HX}{n:Int}(h:Sound x.H)(hn:0≤n∧n≤1000000000000):FnA Tryz.prog 64 [ptr a,.int .i64 n] (hp a x) (fun v As=>∃z:HX,v=.int .i64 (stepN x.H n:Nat)∧As=hp a z∧z.H=x.H.stepH n):=by
 refine fnA_of (fun h=>fn64 (by simp) h) ?_
 unfold stepN Heap.stepH
 by_cases hn0:n=0
 ·rw[if_pos hn0,if_pos hn0]
  repeat' (first|refine xx ?_|(refine xy ?_ ?_<;>intro hb<;>try(exfalso;omega))|fail)
  exact fa_r (fun _ _=>rfl) (Pm.ent (fin x)) ⟨x,rfl,rfl,rfl⟩
 ·rw[if_neg hn0,if_neg hn0]
  unfold stepN
  rw[if_neg hn0]
  have hb:=beginH_ok h
  obtain⟨ho,hN⟩:=outN_ok hb
  have hxp:x.hdr.phase=x.H.phase:=rfl
  refine v_seq ?_
  repeat' (first
   |(refine k_L ?_;refine a_p rfl ?_)
   |refine a_n ?_
   |(refine k_V ?_;refine v_reg ?_)
   |refine s_n ?_)
  refine g_cut (fun _:Unit=>[(0,.v (ptr a)),(1,.v (.int .i64 n))]) (fun _=>hp a x) (fun _=>True) ?_ (fun _ _=>?_)
  ·repeat' (first|refine xx ?_|(refine xy ?_ ?_<;>intro hb<;>try(exfalso;omega))|fail)
   exact j_i () trivial
  refine g_cut (fun z:HX=>[(0,.v (ptr a)),(1,.v (.int .i64 n))]) (fun z=>hp a z) (fun z=>z.H=x.H.beginH) ?_ (fun w hw=>?_)
  ·unfold Heap.beginH
   repeat' (first|refine xx ?_|(refine xy ?_ ?_<;>intro hb<;>try(exfalso;omega))|(refine k_L ?_;(refine g_c rfl (l3begin_a (x:=x)) (fun v As' hq=>?_);subst hq))|fail)
   ·exact j_i (x.ph 1 0) (by rw[if_pos (show x.H.phase=0 by omega)];exact ph_H rfl)
   ·exact j_i x (by rw[if_neg (show ¬x.H.phase=0 by omega)])
  rw[←hw]
  rw[←hw]at hb ho hN
  repeat' (first|refine xx ?_|fail)
  generalize hm:min n.toNat (outN w.H)=mx
  have hm1:mx≤outN w.H:=by omega
  have hm2:(mx:Int)≤n:=by omega
  refine v_mono (Q:=seqA (Jx (fun z:HX=>[(0,.v (ptr a)),(5,.v (.int .i64 mx))]) (fun z=>hp a z) (fun z=>z.H=iterU mx w.H)) (fun _ _ _=>False)) ?_ ?_
  ·refine v_blk ?_
   refine v_loop (fun q:Nat×HX=>[(0,.v (ptr a)),(1,.v (.int .i64 n)),(5,.v (.int .i64 q.1))]) (fun q=>hp a q.2) (fun k q=>k=mx-q.1∧q.1≤mx∧q.2.H=iterU q.1 w.H) ⟨_,(0,w),⟨rfl,rfl,rfl,trivial⟩,Ent.refl _,rfl,Nat.zero_le _,rfl⟩ ?_
   rintro k ⟨j,z⟩ ⟨rfl,hj,hz⟩
   simp only at hj hz
   dsimp only
   have hs:Sound z.H:=by rw[hz];exact iterU_sound j hb
   have hp:=out_phase hb (j:=j) (by omega)
   rw[←hz]at hp
   have hph:z.hdr.phase=z.H.phase:=rfl
   by_cases e:j=mx
   ·subst e
    by_cases e1:(j:Int)<n
    ·have e0:z.H.phase=0:=hp.2 (by omega)
     repeat' (first|refine xx ?_|(refine xy ?_ ?_<;>intro hb<;>try(exfalso;omega))|fail)
     exact j_i z hz
    ·repeat' (first|refine xx ?_|(refine xy ?_ ?_<;>intro hb<;>try(exfalso;omega))|fail)
     exact j_i z hz
   ·have e0:z.H.phase≠0:=fun h'=>by have:=hp.1 h';omega
    repeat' (first|refine xx ?_|(refine xy ?_ ?_<;>intro hb<;>try(exfalso;omega))|(refine k_L ?_;(refine g_c rfl (l3unit_a hs e0) (fun v As' hq=>?_);obtain⟨u,rfl,hu⟩:=hq))|fail)
    refine⟨mx-(j+1),(j+1,u),by omega,⟨rfl,rfl,rfl,trivial⟩,Pm.ent pmt,rfl,by show j+1≤mx;omega,?_⟩
    show u.H=iterU (j+1) w.H
    rw[iterU_succ,←hz];exact hu
  rintro y S' As' hq
  cases y with
  |ret=>exact hq.elim
  |ext i=>exact hq.elim
  |nrm=>
  obtain⟨z,hl',he',hz⟩:=hq
  refine v_weak _ hl' (VA.ent he' ?_)
  repeat' (first|refine xx ?_|fail)
  exact fa_r (fun _ _=>rfl) (Pm.ent (fin z)) ⟨z,rfl,rfl,hz⟩
def HX.vn(x:HX)(n:Int):Value:=.agg (x.row++[Value.int .i64 n]).toArray
def HX.vn2(x:HX)(n k:Int):Value:=.agg (x.row++[Value.int .i64 n,Value.int .i64 k]).toArray
def outAN2(m:Mem)(K:Heap)(n k:Int)(v:Value)(As:List Asr):Prop:=∃E,(∃y:HX,v=y.vn2 n k∧y.H=K∧E=y.body)∧As=E++[ro m]
theorem used_b{z:HX}(h:Sound z.H):0≤z.hdr.used∧z.hdr.used≤4000:=by
 have h1:=h.r1.room
 have h2:=h.r3
 have h3:=unitsN_nn z.H.cells
 have e1:z.hdr.used=z.H.used:=rfl
 unfold R3 at h2
 omega
def HX.frc(x:HX)(n:Int):HX:={x with forced:=n}
theorem l5room_a{a:Nat}{x:HX}{u:Int}(h:Sound x.H)(hu:0≤u∧u≤201):FnA Tryz.prog 90 [ptr a,.int .i64 u] (hp a x) (fun v As=>∃z:HX,v=.bool (decide ((x.H.fitsH u).used+u≤(x.H.fitsH u).room))∧As=hp a z∧z.H=x.H.fitsH u):=by
 refine fnA_of (fun h=>fn90 (by simp) h) ?_
 have e1:x.hdr.used=x.H.used:=rfl
 have e2:x.hdr.room=x.H.room:=rfl
 have e3:x.hdr.forced=x.H.forced:=rfl
 have h1:=h.r1.room
 have h2:=h.r3.2
 have h3:=h.r1.forced
 have h4:0≤x.H.used:=by have:=h.r3.1;have:=unitsN_nn x.H.cells;omega
 by_cases hf:x.H.used+u≤x.H.room
 ·have e:x.H.fitsH u=x.H:=by unfold Heap.fitsH;rw[if_pos hf]
  rw[e]
  repeat' (first|refine xx ?_|(refine xy ?_ ?_<;>intro hb<;>try(exfalso;omega))|fail)
  exact fa_r (fun _ _=>rfl) (Pm.ent pmt) ⟨x,by simp[hf],rfl,rfl⟩
 ·have fr:∀n:Int,(x.frc n).H={x.H with forced:=n}:=fun n=>rfl
  have end_:∀(z:HX) (F:Heap),z.H=F→(z.hdr.used+u≤z.hdr.room↔F.used+u≤F.room):=fun z F e=>by rw[←e];exact Iff.rfl
  have e:x.H.fitsH u=(x.frc (if x.H.forced<1000000000 then x.H.forced+1 else x.H.forced)).H.roundH:=by unfold Heap.fitsH;rw[if_neg hf];rfl
  rw[e]
  by_cases hc:x.H.forced<1000000000
  ·rw[if_pos hc]
   repeat' (first|refine xx ?_|(refine xy ?_ ?_<;>intro hb<;>try(exfalso;omega))|(refine k_L ?_;(refine g_c rfl (l3round_a (x:=x.frc (x.H.forced+1)) (by rw[fr];exact forced_sound h (by omega))) (fun v As' hq=>?_);obtain⟨z,rfl,hz⟩:=hq;have zb:=used_b (z:=z) (by rw[hz];exact(roundH_ok (by rw[fr];exact forced_sound h (by omega))).1)))|fail)
   all_goals exact fa_r (fun _ _=>rfl) (Pm.ent pmt) ⟨z,by congr 1;rw[Bool.eq_iff_iff];simp only[decide_eq_true_eq];exact end_ z _ hz,rfl,hz⟩
  ·rw[if_neg hc]
   repeat' (first|refine xx ?_|(refine xy ?_ ?_<;>intro hb<;>try(exfalso;omega))|(refine k_L ?_;(refine g_c rfl (l3round_a (x:=x) h) (fun v As' hq=>?_);obtain⟨z,rfl,hz⟩:=hq;have zb:=used_b (z:=z) (by rw[hz];exact(roundH_ok h).1)))|fail)
   all_goals exact fa_r (fun _ _=>rfl) (Pm.ent pmt) ⟨z,by congr 1;rw[Bool.eq_iff_iff];simp only[decide_eq_true_eq];exact end_ z _ hz,rfl,hz⟩
theorem step_begun{H:Heap}(hp:H.phase=0){n:Int}(hn:n≠0):(H.enterH 1).stepH n=H.stepH n:=by
 have e1:(H.enterH 1).beginH=H.enterH 1:=by unfold Heap.beginH;rw[if_neg (by show ¬(1:Int)=0;omega)]
 have e2:H.beginH=H.enterH 1:=by unfold Heap.beginH;rw[if_pos hp]
 unfold Heap.stepH stepN
 simp only[if_neg hn,e1,e2]
theorem l5pace_a{a:Nat}{x:HX}{u:Int}(h:Sound x.H)(hu:0≤u∧u≤201):FnA Tryz.prog 93 [ptr a,.int .i64 u] (hp a x) (fun v As=>∃z:HX,As=hp a z∧z.H=x.H.paceH u):=by
 refine fnA_of (fun h=>fn93 (by simp) h) ?_
 have e1:x.hdr.used=x.H.used:=rfl
 have e2:x.hdr.per=x.H.per:=rfl
 have e3:x.hdr.start=x.H.start:=rfl
 have e4:x.hdr.phase=x.H.phase:=rfl
 have h1:=h.r1.per
 have hm:0≤x.H.per*u∧x.H.per*u≤64*201:=⟨Int.mul_nonneg h1.1 hu.1,Int.mul_le_mul h1.2 hu.2 hu.1 (by omega)⟩
 unfold Heap.paceH
 by_cases c1:x.H.per=0∨u=0
 ·rw[if_pos c1]
  repeat' (first|refine xx ?_|(refine xy ?_ ?_<;>intro hb<;>try(exfalso;omega))|fail)
  all_goals first
   |exact fa_n (fun _ _=>rfl) (Pm.ent pmt) ⟨x,rfl,rfl⟩
   |(exfalso;omega)
 ·rw[if_neg c1]
  have c2:¬x.H.per=0:=fun e=>c1 (.inl e)
  have c3:¬u=0:=fun e=>c1 (.inr e)
  have hn:x.H.per*u≠0:=fun e=>by
   rcases Int.mul_eq_zero.1 e with e|e
   ·exact c2 e
   ·exact c3 e
  by_cases c4:x.H.phase=0
  ·by_cases c5:x.H.used≤x.H.start
   ·rw[if_pos ⟨c4,c5⟩]
    repeat' (first|refine xx ?_|(refine xy ?_ ?_<;>intro hb<;>try(exfalso;omega))|fail)
    all_goals first
     |exact fa_n (fun _ _=>rfl) (Pm.ent pmt) ⟨x,rfl,rfl⟩
     |(exfalso;omega)
   ·rw[if_neg (fun e=>c5 e.2)]
    have pb:(x.ph 1 0).H=x.H.enterH 1:=ph_H rfl
    have hsb:Sound (x.ph 1 0).H:=by rw[pb];exact begin_sound h c4
    have hm2:0≤(x.ph 1 0).hdr.per*u∧(x.ph 1 0).hdr.per*u≤64*201:=hm
    repeat' (first|refine xx ?_|(refine xy ?_ ?_<;>intro hb<;>try(exfalso;omega))|(refine k_L ?_;(refine g_c rfl (l3begin_a (x:=x)) (fun v As' hq=>?_);subst hq))|fail)
    refine g_c rfl (l3step_a (x:=x.ph 1 0) (n:=(x.ph 1 0).hdr.per*u) hsb (by omega)) (fun v As' hq=>?_)
    obtain⟨z,rfl,rfl,hz⟩:=hq
    repeat' (first|refine xx ?_|(refine xy ?_ ?_<;>intro hb<;>try(exfalso;omega))|fail)
    exact fa_n (fun _ _=>rfl) (Pm.ent pmt) ⟨z,rfl,by rw[hz,pb];exact step_begun c4 hn⟩
  ·rw[if_neg (fun e=>c4 e.1)]
   repeat' (first|refine xx ?_|(refine xy ?_ ?_<;>intro hb<;>try(exfalso;omega))|(refine k_L ?_;(refine g_c rfl (l3step_a (x:=x) (n:=x.H.per*u) h (by omega)) (fun v As' hq=>?_);obtain⟨z,rfl,rfl,hz⟩:=hq))|fail)
   all_goals exact fa_n (fun _ _=>rfl) (Pm.ent pmt) ⟨z,rfl,hz⟩
theorem b_p{P:Program}{r:List I}{d:Option Nat}{post:St→List Asr→Prop}{S:St}{As:List Asr}{k:K}{sv:SV}(h:pe S k=some sv)(hp:LA P r post (put S d sv) As):LA P (⟨d,none,k⟩::r) post S As:=a_p h hp
theorem b_w{P:Program}{r:List I}{d:Option Nat}{post:St→List Asr→Prop}{S:St}{As:List Asr}{k:K}(w:Word)(h:pe S k=some (.v (wa w)))(hp:LA P r post (put S d (.v (wa w))) As):LA P (⟨d,none,k⟩::r) post S As:=a_p h hp
theorem l5due_a{a:Nat}{x:HX}{b:Act}(h:Sound x.H)(hr:0≤b.a∧b.a≤15):FnA Tryz.prog 60 [ptr a,.int .i64 b.a] (hp a x) (fun v As=>∃z:HX,v=an (doDue x.H b).code (doDue x.H b).num∧As=hp a z∧z.H=(doDue x.H b).heap):=by
 have hl:=x.len
 have hnc:x.hdr.nc=x.xs.length:=rfl
 have hnr:x.hdr.nr=x.regs.length:=rfl
 have h16:x.regs.length=16:=h.r1.regs
 obtain⟨k,hk⟩:=Int.eq_ofNat_of_zero_le hr.1
 refine fnA_of (fun h=>fn60 (by simp) h) ?_
 have hlt:=ndG_lt x.H x.H.cells.length
 unfold doDue
 rw[hk]
 obtain⟨w,gw⟩:∃w,x.regs[k]?=some w:=⟨_,List.getElem?_eq_getElem (by omega)⟩
 by_cases hd:ndG x.H x.H.cells.length<0
 ·rw[if_pos hd]
  repeat' (first
   |(refine k_L ?_;first|(refine k_l ?_;refine g_l rfl ?_)|(refine k_i ?_;refine g_i rfl rfl ?_)|(refine k_st ?_;first|refine g_st rfl rfl rfl rfl ?_|refine g_sw rfl rfl rfl rfl (Nat.le_of_ble_eq_true rfl) ?_)|(refine k_al ?_;refine a_al ?_)|(refine k_c ?_;refine a_cq rfl (fun m hm=>l5fine_q) ?_)|(refine a_cq rfl (fun m hm=>l4next_q (x:=x) (sep_has hm pmt)) ?_)|(refine b_w ⟨0,0,0⟩ rfl ?_)|(refine b_p rfl ?_))
   |refine a_n ?_
   |(refine k_V ?_;first|refine v_seq ?_|refine v_reg ?_|refine v_ret ?_|(refine v_cd rfl (fun hb=>?_) (fun hb=>?_)<;>try(exfalso;omega)))
   |refine s_r ?_
   |refine sk_zero ?_
   |refine sk_succ ?_
   |refine wk_nil ?_
   |refine wk_cons ?_)
  all_goals exact fa_r (fun _ _=>rfl) (Pm.ent (fin ({x with regs:=x.regs.set k ⟨0,0,0⟩}:HX) (h1:=by simp[HX.hdr]))) ⟨_,rfl,rfl,rfl⟩
 ·rw[if_neg hd]
  obtain⟨j,hj⟩:=Int.eq_ofNat_of_zero_le (show 0≤ndG x.H x.H.cells.length by omega)
  rw[hj]at hlt hd⊢
  obtain⟨y,gy,gc⟩:=HX.at (x:=x) (i:=j) (by omega)
  repeat' (first
   |(refine k_L ?_;first|(refine k_l ?_;refine g_l rfl ?_)|(refine k_i ?_;refine g_i rfl rfl ?_)|(refine k_st ?_;first|refine g_st rfl rfl rfl rfl ?_|refine g_sw rfl rfl rfl rfl (Nat.le_of_ble_eq_true rfl) ?_)|(refine k_al ?_;refine a_al ?_)|(refine k_c ?_;refine a_cq rfl (fun m hm=>l5fine_q) ?_)|(refine a_cq rfl (fun m hm=>qt_e (l4next_q (x:=x) (sep_has hm pmt)) (by rw[hj])) ?_)|(refine b_w ⟨2,0,j⟩ rfl ?_)|(refine b_p rfl ?_))
   |refine a_n ?_
   |(refine k_V ?_;first|refine v_seq ?_|refine v_reg ?_|refine v_ret ?_|refine v_skip ?_|refine v_cf rfl ?_)
   |refine sk_zero ?_
   |refine sk_succ ?_
   |refine wk_nil ?_
   |refine wk_cons ?_)
  have gk:=HX.gc gy
  refine fa_r (fun _ _=>rfl) (Pm.ent (fin ({x with regs:=x.regs.set k ⟨2,0,j⟩,xs:=x.xs.set j (y.s_last 3)}:HX) (h1:=by simp[HX.hdr]))) ⟨_,rfl,rfl,?_⟩
  unfold Heap.setR Heap.putL
  simp only[Int.toNat_natCast]
  rw[gk]
  unfold HX.H
  simp only[List.map_set]
  rfl
theorem cutN_get{K:Heap}{i m:Nat}(hi:i<K.cells.length):(K.cutN i m).getC i={K.getC i with pairs:=(K.getC i).pairs.take m}:=by
 unfold Heap.cutN
 rw[putC_get hi,if_pos (by omega)]
theorem cut_step{K:Heap}{i m:Nat}(hi:i<K.cells.length)(hm:m+1≤(K.getC i).pairs.length)(hs:0≤K.sub):
 {K.cutN i (m+1)with cells:=(K.cutN i (m+1)).cells.set i {(K.cutN i (m+1)).getC i with pairs:=((K.cutN i (m+1)).getC i).pairs.eraseIdx m},used:=(K.cutN i (m+1)).used-1,sub:=if(m:Int)<(K.cutN i (m+1)).sub∧(K.cutN i (m+1)).walkedI=i then(K.cutN i (m+1)).sub-1 else(K.cutN i (m+1)).sub}=K.cutN i m:=by
 rw[cutN_get hi]
 have hl:(K.cutN i (m+1)).cells.length=K.cells.length:=by unfold Heap.cutN Heap.putC;simp
 have hw:(K.cutN i (m+1)).walkedI=K.walkedI:=by
  unfold Heap.walkedI
  rw[hl];rfl
 rw[hw]
 have e1:((K.getC i).pairs.take (m+1)).eraseIdx m=(K.getC i).pairs.take m:=by
  rw[List.eraseIdx_eq_take_drop_succ,List.take_take,List.drop_eq_nil_of_le (by rw[List.length_take];omega),List.append_nil]
  congr 1;omega
 rw[e1]
 unfold Heap.cutN Heap.putC
 simp only[List.set_set,Heap.mk.injEq,true_and,and_true]
 refine⟨by omega,?_⟩
 by_cases w:K.walkedI=i
 ·rw[if_pos w,if_pos w]
  split<;>omega
 ·rw[if_neg w,if_neg (fun e=>w e.2),if_neg w]
theorem cut_top{K:Heap}{i:Nat}(h:Sound K)(hi:i<K.cells.length):K.cutN i (K.getC i).pairs.length=K:=by
 unfold Heap.cutN Heap.putC
 have e1:K.cells.set i {K.getC i with pairs:=(K.getC i).pairs.take (K.getC i).pairs.length}=K.cells:=by
  rw[List.take_length]
  refine List.ext_getElem? fun j=>?_
  rw[List.getElem?_set]
  split
  ·rename_i e
   subst e
   rw[get_at hi]
  ·rfl
 rw[e1]
 have e2:(if K.walkedI=i then min K.sub (K.getC i).pairs.length else K.sub)=K.sub:=by
  split
  ·rename_i w;have:=walked_sub h hi w;omega
  ·rfl
 rw[e2]
 have e3:K.used-(((K.getC i).pairs.length:Int)-((K.getC i).pairs.length:Nat))=K.used:=by omega
 rw[e3]
theorem l5cut_a{a:Nat}{x:HX}{i n:Nat}(h:Sound x.H)(hi:i<x.xs.length)(hs:(x.H.getC i).state=1):FnA Tryz.prog 97 [ptr a,.int .i64 i,.int .i64 n] (hp a x) (fun v As=>∃z:HX,As=hp a z∧z.H=x.H.cutH i n):=by
 have hl:=x.len
 have hi':i<x.H.cells.length:=by omega
 have hub:=used_b h
 have hc8:=h.r1.cells
 have hrm:=h.r1.room
 have hsb:=h.r1.sub
 have hpl:=getC_pl h.r2 i
 refine fnA_of (fun h=>fn97 (by simp) h) ?_
 refine v_blk ?_
 generalize hL:(x.H.getC i).pairs.length=L at*
 have hcut:∀m:Nat,m≤L→Sound (x.H.cutN i m):=fun m hm=>cutN_sound h hi' hs (by omega)
 refine v_loop (fun q:Nat×HX=>[(0,.v (ptr a)),(1,.v (.int .i64 i)),(2,.v (.int .i64 n))]) (fun q=>hp a q.2) (fun k q=>k=q.1∧q.1≤L∧(n≤q.1∨q.1=L)∧q.2.H=x.H.cutN i q.1) ⟨_,(L,x),⟨rfl,rfl,rfl,trivial⟩,Ent.refl _,rfl,Nat.le_refl _,.inr rfl,by rw[←hL];exact(cut_top h hi').symm⟩ ?_
 rintro k ⟨m,z⟩ ⟨rfl,hm,hn,hz⟩
 simp only at hm hn hz
 dsimp only
 have hs2:Sound z.H:=by rw[hz];exact hcut k hm
 have hzl:z.xs.length=x.xs.length:=by
  have:=congrArg (fun K:Heap=>K.cells.length) hz
  simp only[HX.len]at this
  unfold Heap.cutN Heap.putC at this
  simpa [HX.len]using this
 have hnc:z.hdr.nc=z.xs.length:=rfl
 obtain⟨y,gy,gc⟩:=HX.at (x:=z) (i:=i) (by omega)
 have gk:=HX.gc gy
 have gz:y.c={x.H.getC i with pairs:=(x.H.getC i).pairs.take k}:=by rw[←gk,hz,cutN_get hi']
 have gp:y.c.pairs.length=k:=by rw[gz];simp;omega
 have zb:=used_b hs2
 have zs:=hs2.r1.sub
 have zu:z.used=z.H.used:=rfl
 have zs':z.sub=z.H.sub:=rfl
 have zd:z.hdr.used=z.used:=rfl
 by_cases hkn:n<k
 ·obtain⟨j,rfl⟩:∃j,k=j+1:=⟨k-1,by omega⟩
  have e28:(y.c.pairs.length:Int)-1=j:=by omega
  repeat' (first|refine xx ?_|(refine xy ?_ ?_<;>intro hb<;>try(exfalso;omega))|fail)
  rw[e28]
  refine g_c rfl (l4cut_a (z:=z) (i:=i) (k:=j) gy (by omega) (by omega) (by omega) (by omega) (by omega)) (fun v As' hq=>?_)
  obtain⟨u,rfl,_,hu⟩:=hq
  repeat' (first|refine xx ?_|fail)
  refine⟨j,(j,u),by omega,⟨rfl,rfl,rfl,trivial⟩,Pm.ent pmt,rfl,by omega,.inl (by omega),?_⟩
  show u.H=x.H.cutN i j
  rw[hu,←gk]
  have:=cut_step (K:=x.H) (i:=i) (m:=j) hi' (by omega) hsb.1
  rw[←hz]at this
  exact this
 ·repeat' (first|refine xx ?_|(refine xy ?_ ?_<;>intro hb<;>try(exfalso;omega))|fail)
  refine fa_n (fun _ _=>rfl) (Pm.ent pmt) ⟨z,rfl,?_⟩
  rw[hz]
  unfold Heap.cutH
  by_cases e:n<(x.H.getC i).pairs.length
  ·rw[if_pos e]
   congr 1;omega
  ·rw[if_neg e]
   have:k=(x.H.getC i).pairs.length:=by omega
   rw[this];exact cut_top h hi'
theorem getR_at{x:HX}{k:Nat}{w:Word}(h:x.regs[k]?=some w):x.H.getR k=w:=by
 unfold Heap.getR
 show x.regs.getD _ _=w
 rw[List.getD_eq_getElem?_getD,Int.toNat_natCast,h];rfl
theorem l5pair_rd{a:Nat}{x:HX}{op n:Int}{ka kb kc:Nat}(h:Sound x.H)(ha:ka≤15)(hb:kb≤15)(ho:op=5∨op=6):FnA Tryz.prog 56 [ptr a,.agg #[.int .i64 op,.int .i64 ka,.int .i64 kb,.int .i64 kc,.int .i64 n]] (hp a x) (fun v As=>∃z:HX,v=an (doPair x.H ⟨op,ka,kb,kc,n⟩).code (doPair x.H ⟨op,ka,kb,kc,n⟩).num∧As=hp a z∧z.H=(doPair x.H ⟨op,ka,kb,kc,n⟩).heap):=by
 have hl:=x.len
 have hnc:x.hdr.nc=x.xs.length:=rfl
 have hnr:x.hdr.nr=x.regs.length:=rfl
 have h16:x.regs.length=16:=h.r1.regs
 obtain⟨wa_,ga⟩:∃w,x.regs[ka]?=some w:=⟨_,List.getElem?_eq_getElem (by omega)⟩
 obtain⟨w,gw⟩:∃w,x.regs[kb]?=some w:=⟨_,List.getElem?_eq_getElem (by omega)⟩
 have er:x.H.getR kb=w:=getR_at gw
 obtain⟨r1,r2⟩:=getR_ok h (r:=kb) (by omega) (by omega)
 rw[er]at r1 r2
 refine fnA_of (fun h=>fn56 (by simp) h) ?_
 unfold doPair
 dsimp only
 rw[if_pos ho,er]
 by_cases hk:w.kind=2
 ·obtain⟨b0,b1,b2,b3⟩:=r2 hk
  obtain⟨j,hj⟩:=Int.eq_ofNat_of_zero_le b0
  obtain⟨wk,wn,wat⟩:=w
  dsimp only at hk hj b1
  subst hk hj
  obtain⟨y,gy,gc⟩:=HX.at (x:=x) (i:=j) (by omega)
  have gk:=HX.gc gy
  rw[if_neg (fun e=>e rfl)]
  dsimp only
  rw[gk,Int.toNat_natCast]
  have hcj:x.H.cells[j]?=some y.c:=gc
  cases hpp:y.c.pairs[kc]? with
  |none=>
   have:=List.getElem?_eq_none_iff.1 hpp
   rcases ho with rfl|rfl
   ·repeat' (first|(refine k_L ?_;(refine k_l ?_;first|refine a_l rfl (by exact rd_t (rd_h (rd_sl (fun _=>rfl) gw rfl))) ?_|refine g_l rfl ?_))|refine xx ?_|(refine xy ?_ ?_<;>intro hb<;>try(exfalso;omega))|(refine k_L ?_;(refine k_c ?_;refine a_cq rfl (fun m hm=>l5bad_q) ?_))|fail)
    all_goals exact fa_r (fun _ _=>rfl) (Pm.ent pmt) ⟨x,rfl,rfl,rfl⟩
   ·repeat' (first|(refine k_L ?_;(refine k_l ?_;first|refine a_l rfl (by exact rd_t (rd_h (rd_sl (fun _=>rfl) gw rfl))) ?_|refine g_l rfl ?_))|refine xx ?_|(refine xy ?_ ?_<;>intro hb<;>try(exfalso;omega))|(refine k_L ?_;(refine k_c ?_;refine a_cq rfl (fun m hm=>l5bad_q) ?_))|fail)
    all_goals exact fa_r (fun _ _=>rfl) (Pm.ent pmt) ⟨x,rfl,rfl,rfl⟩
  |some p=>
   have:=(List.getElem?_eq_some_iff.1 hpp).1
   obtain⟨p1,p2,_⟩:=h.r4.pairs j y.c hcj kc p hpp
   have fk:p.key.kind=2→0≤p.key.at_∧p.key.at_<x.H.cells.length:=fun e=>p1.at e
   have fv:p.val.kind=2→0≤p.val.at_∧p.val.at_<x.H.cells.length:=fun e=>p2.at e
   rcases ho with rfl|rfl
   ·repeat' (first|(refine k_L ?_;(refine k_l ?_;first|refine a_l rfl (by exact rd_t (rd_h (rd_sl (fun _=>rfl) gw rfl))) ?_|refine g_l rfl ?_))|refine xx ?_|(refine xy ?_ ?_<;>intro hb<;>try(exfalso;omega))|(refine k_L ?_;first|(refine k_q ?_;refine a_q rfl (fun m hm=>l1resolve_q (x:=x) (sep_has hm pmt) fk) ?_)|(refine k_c ?_;refine a_cq rfl (fun m hm=>l5fine_q) ?_))|fail)
    all_goals exact fa_r (fun _ _=>rfl) (Pm.ent (fin ({x with regs:=x.regs.set ka (x.H.lead p.key)}:HX) (h1:=by simp[HX.hdr]))) ⟨_,rfl,rfl,rfl⟩
   ·repeat' (first|(refine k_L ?_;(refine k_l ?_;first|refine a_l rfl (by exact rd_t (rd_h (rd_sl (fun _=>rfl) gw rfl))) ?_|refine g_l rfl ?_))|refine xx ?_|(refine xy ?_ ?_<;>intro hb<;>try(exfalso;omega))|(refine k_L ?_;first|(refine k_q ?_;refine a_q rfl (fun m hm=>l1resolve_q (x:=x) (sep_has hm pmt) fv) ?_)|(refine k_c ?_;refine a_cq rfl (fun m hm=>l5fine_q) ?_))|fail)
    all_goals exact fa_r (fun _ _=>rfl) (Pm.ent (fin ({x with regs:=x.regs.set ka (x.H.lead p.val)}:HX) (h1:=by simp[HX.hdr]))) ⟨_,rfl,rfl,rfl⟩
 ·rw[if_pos hk]
  rcases ho with rfl|rfl
  ·repeat' (first|(refine k_L ?_;(refine k_l ?_;first|refine a_l rfl (by exact rd_t (rd_h (rd_sl (fun _=>rfl) gw rfl))) ?_|refine g_l rfl ?_))|refine xx ?_|(refine xy ?_ ?_<;>intro hb<;>try(exfalso;omega))|(refine k_L ?_;(refine k_c ?_;refine a_cq rfl (fun m hm=>l5bad_q) ?_))|fail)
   all_goals exact fa_r (fun _ _=>rfl) (Pm.ent pmt) ⟨x,rfl,rfl,rfl⟩
  ·repeat' (first|(refine k_L ?_;(refine k_l ?_;first|refine a_l rfl (by exact rd_t (rd_h (rd_sl (fun _=>rfl) gw rfl))) ?_|refine g_l rfl ?_))|refine xx ?_|(refine xy ?_ ?_<;>intro hb<;>try(exfalso;omega))|(refine k_L ?_;(refine k_c ?_;refine a_cq rfl (fun m hm=>l5bad_q) ?_))|fail)
   all_goals exact fa_r (fun _ _=>rfl) (Pm.ent pmt) ⟨x,rfl,rfl,rfl⟩
theorem shadeH_put{H:Heap}{i t k:Nat}{q:Pair}(hi:i<H.cells.length)(ht:t<H.cells.length):(H.putP i k q).shadeH t=(H.shadeH t).putP i k q:=by
 have gC:(H.putP i k q).getC t=if t=i then{H.getC i with pairs:=(H.getC i).pairs.set k q}else H.getC t:=by
  have:(H.putP i k q).getC t=if(t:Int).toNat=i then{H.getC i with pairs:=(H.getC i).pairs.set k q}else H.getC t:=by rw[getC_L,getC_L];exact getL_set hi
  rw[this,Int.toNat_natCast]
 have hcl:((H.putP i k q).getC t).color=(H.getC t).color:=by
  rw[gC];split
  ·rename_i e;rw[e]
  ·rfl
 unfold Heap.shadeH
 rw[hcl]
 have hm:Marking (H.putP i k q)↔Marking H:=Iff.rfl
 by_cases c:Marking H∧(H.getC t).color=0
 ·rw[if_pos c,if_pos ⟨hm.2 c.1,c.2⟩,gC]
  have gD:(H.gray1 t (H.getC t)).getC i=if i=t then(H.getC t).col 1 else H.getC i:=by
   have:(H.gray1 t (H.getC t)).getC i=if(i:Int).toNat=t then(H.getC t).col 1 else H.getC i:=by rw[getC_L,getC_L];exact getL_set ht
   rw[this,Int.toNat_natCast]
  unfold Heap.putP
  rw[gD]
  unfold Heap.gray1
  by_cases e:t=i
  ·subst e
   rw[if_pos rfl,if_pos rfl]
   simp only[List.set_set];rfl
  ·rw[if_neg e,if_neg (fun h=>e h.symm)]
   simp only[Heap.mk.injEq,true_and,and_true]
   exact List.set_comm _ _ (fun h=>e h.symm)
 ·rw[if_neg c,if_neg (fun h=>c ⟨hm.1 h.1,h.2⟩)]
theorem shadeW_put{H:Heap}{i k:Nat}{q:Pair}{w:Word}(hi:i<H.cells.length)(hf:Formed H w):(H.putP i k q).shadeW w=(H.shadeW w).putP i k q:=by
 unfold Heap.shadeW
 by_cases hk:w.kind=2
 ·rw[if_pos hk,if_pos hk]
  have:=hf.at hk
  exact shadeH_put hi (by omega)
 ·rw[if_neg hk,if_neg hk]
theorem l5pair_wr{a:Nat}{x:HX}{op n:Int}{ka kb kc:Nat}(h:Sound x.H)(ha:ka≤15)(hb:kb≤15)(ho:op=7∨op=8):FnA Tryz.prog 56 [ptr a,.agg #[.int .i64 op,.int .i64 ka,.int .i64 kb,.int .i64 kc,.int .i64 n]] (hp a x) (fun v As=>∃z:HX,v=an (doPair x.H ⟨op,ka,kb,kc,n⟩).code (doPair x.H ⟨op,ka,kb,kc,n⟩).num∧As=hp a z∧z.H=(doPair x.H ⟨op,ka,kb,kc,n⟩).heap):=by
 have hl:=x.len
 have hnc:x.hdr.nc=x.xs.length:=rfl
 have hnr:x.hdr.nr=x.regs.length:=rfl
 have h16:x.regs.length=16:=h.r1.regs
 obtain⟨v,gv⟩:∃w,x.regs[kb]?=some w:=⟨_,List.getElem?_eq_getElem (by omega)⟩
 obtain⟨w,gw⟩:∃w,x.regs[ka]?=some w:=⟨_,List.getElem?_eq_getElem (by omega)⟩
 have er:x.H.getR ka=w:=getR_at gw
 obtain⟨r1,r2⟩:=getR_ok h (r:=ka) (by omega) (by omega)
 rw[er]at r1 r2
 refine fnA_of (fun h=>fn56 (by simp) h) ?_
 unfold doPair
 dsimp only
 rw[if_neg (show ¬(op=5∨op=6) by omega),er]
 by_cases hk:w.kind=2
 ·obtain⟨b0,b1,b2,b3⟩:=r2 hk
  obtain⟨j,hj⟩:=Int.eq_ofNat_of_zero_le b0
  obtain⟨wk,wn,wat⟩:=w
  dsimp only at hk hj b1
  subst hk hj
  obtain⟨y,gy,gc⟩:=HX.at (x:=x) (i:=j) (by omega)
  have gk:=HX.gc gy
  rw[if_neg (fun e=>e rfl)]
  dsimp only
  rw[gk,Int.toNat_natCast]
  have hcj:x.H.cells[j]?=some y.c:=gc
  cases hpp:y.c.pairs[kc]? with
  |none=>
   have:=List.getElem?_eq_none_iff.1 hpp
   rcases ho with rfl|rfl
   ·repeat' (first|(refine k_L ?_;(refine k_l ?_;first|refine a_l rfl (by exact rd_t (rd_h (rd_sl (fun _=>rfl) gw rfl))) ?_|refine g_l rfl ?_))|refine xx ?_|(refine xy ?_ ?_<;>intro hb<;>try(exfalso;omega))|(refine k_L ?_;(refine k_c ?_;refine a_cq rfl (fun m hm=>l5bad_q) ?_))|fail)
    all_goals exact fa_r (fun _ _=>rfl) (Pm.ent pmt) ⟨x,rfl,rfl,rfl⟩
   ·repeat' (first|(refine k_L ?_;(refine k_l ?_;first|refine a_l rfl (by exact rd_t (rd_h (rd_sl (fun _=>rfl) gw rfl))) ?_|refine g_l rfl ?_))|refine xx ?_|(refine xy ?_ ?_<;>intro hb<;>try(exfalso;omega))|(refine k_L ?_;(refine k_c ?_;refine a_cq rfl (fun m hm=>l5bad_q) ?_))|fail)
    all_goals exact fa_r (fun _ _=>rfl) (Pm.ent pmt) ⟨x,rfl,rfl,rfl⟩
  |some p=>
   have:=(List.getElem?_eq_some_iff.1 hpp).1
   have ev:x.H.getR kb=v:=getR_at gv
   obtain⟨v1,v2⟩:=getR_ok h (r:=kb) (by omega) (by omega)
   rw[ev]at v1 v2
   rcases ho with rfl|rfl
   ·repeat' (first|(refine k_L ?_;(refine k_l ?_;first|refine a_l rfl (by exact rd_t (rd_h (rd_sl (fun _=>rfl) gw rfl))) ?_|refine g_l rfl ?_))|refine xx ?_|(refine xy ?_ ?_<;>intro hb<;>try(exfalso;omega))|fail)
    refine a_st rfl rfl rfl rfl (up_t (up_t (up_h (u_pair (p':=⟨v,p.val⟩) gy hpp)))) ?_
    have zH:HX.H {x with xs:=x.xs.set j (y.s_pair kc ⟨v,p.val⟩)}=x.H.putP j kc ⟨v,p.val⟩:=by
     unfold Heap.putP
     rw[gk]
     unfold HX.H
     simp only[List.map_set];rfl
    repeat' (first|refine xx ?_|fail)
    rw[show((kc:Int)).toNat=kc from rfl]
    refine LA.ent (Pm.ent (fin ({x with xs:=x.xs.set j (y.s_pair kc ⟨v,p.val⟩)}:HX) (e1:=by simp[HX.hdr]))) ?_
    refine g_c rfl (l3shade_a (x:={x with xs:=x.xs.set j (y.s_pair kc ⟨v,p.val⟩)}) (w:=v) (fun hk=>by rw[zH];have:=v1.at hk;show _∧_<((x.H.cells.set j _).length:Int);rw[List.length_set];exact this) (by have:=h.r1.gray;have:=h.r1.cells;have:=h.r1.room;show x.gray.length≤_;have e:x.H.gray.length=x.gray.length:=rfl;omega)) (fun v' As' hq=>?_)
    obtain⟨u,rfl,rfl,hu,_⟩:=hq
    repeat' (first|refine xx ?_|(refine k_L ?_;(refine k_c ?_;refine a_cq rfl (fun m hm=>l5fine_q) ?_))|fail)
    all_goals exact fa_r (fun _ _=>rfl) (Pm.ent pmt) ⟨u,rfl,rfl,by rw[hu,zH,shadeW_put (by omega) v1,ev];rfl⟩
   ·repeat' (first|(refine k_L ?_;(refine k_l ?_;first|refine a_l rfl (by exact rd_t (rd_h (rd_sl (fun _=>rfl) gw rfl))) ?_|refine g_l rfl ?_))|refine xx ?_|(refine xy ?_ ?_<;>intro hb<;>try(exfalso;omega))|fail)
    refine a_st rfl rfl rfl rfl (up_t (up_t (up_h (u_pair (p':=⟨p.key,v⟩) gy hpp)))) ?_
    have zH:HX.H {x with xs:=x.xs.set j (y.s_pair kc ⟨p.key,v⟩)}=x.H.putP j kc ⟨p.key,v⟩:=by
     unfold Heap.putP
     rw[gk]
     unfold HX.H
     simp only[List.map_set];rfl
    repeat' (first|refine xx ?_|fail)
    rw[show((kc:Int)).toNat=kc from rfl]
    refine LA.ent (Pm.ent (fin ({x with xs:=x.xs.set j (y.s_pair kc ⟨p.key,v⟩)}:HX) (e1:=by simp[HX.hdr]))) ?_
    refine g_c rfl (l3shade_a (x:={x with xs:=x.xs.set j (y.s_pair kc ⟨p.key,v⟩)}) (w:=v) (fun hk=>by rw[zH];have:=v1.at hk;show _∧_<((x.H.cells.set j _).length:Int);rw[List.length_set];exact this) (by have:=h.r1.gray;have:=h.r1.cells;have:=h.r1.room;show x.gray.length≤_;have e:x.H.gray.length=x.gray.length:=rfl;omega)) (fun v' As' hq=>?_)
    obtain⟨u,rfl,rfl,hu,_⟩:=hq
    repeat' (first|refine xx ?_|(refine k_L ?_;(refine k_c ?_;refine a_cq rfl (fun m hm=>l5fine_q) ?_))|fail)
    all_goals exact fa_r (fun _ _=>rfl) (Pm.ent pmt) ⟨u,rfl,rfl,by rw[hu,zH,shadeW_put (by omega) v1,ev];rfl⟩
 ·rw[if_pos hk]
  rcases ho with rfl|rfl
  ·repeat' (first|(refine k_L ?_;(refine k_l ?_;first|refine a_l rfl (by exact rd_t (rd_h (rd_sl (fun _=>rfl) gw rfl))) ?_|refine g_l rfl ?_))|refine xx ?_|(refine xy ?_ ?_<;>intro hb<;>try(exfalso;omega))|(refine k_L ?_;(refine k_c ?_;refine a_cq rfl (fun m hm=>l5bad_q) ?_))|fail)
   all_goals exact fa_r (fun _ _=>rfl) (Pm.ent pmt) ⟨x,rfl,rfl,rfl⟩
  ·repeat' (first|(refine k_L ?_;(refine k_l ?_;first|refine a_l rfl (by exact rd_t (rd_h (rd_sl (fun _=>rfl) gw rfl))) ?_|refine g_l rfl ?_))|refine xx ?_|(refine xy ?_ ?_<;>intro hb<;>try(exfalso;omega))|(refine k_L ?_;(refine k_c ?_;refine a_cq rfl (fun m hm=>l5bad_q) ?_))|fail)
   all_goals exact fa_r (fun _ _=>rfl) (Pm.ent pmt) ⟨x,rfl,rfl,rfl⟩
theorem l5cell_a{a:Nat}{x:HX}{op n:Int}{ka kb kc:Nat}(h:Sound x.H)(ha:ka≤15)(ho:op=11∨op=16∨op=17):FnA Tryz.prog 57 [ptr a,.agg #[.int .i64 op,.int .i64 ka,.int .i64 kb,.int .i64 kc,.int .i64 n]] (hp a x) (fun v As=>∃z:HX,v=an (doCell x.H ⟨op,ka,kb,kc,n⟩).code (doCell x.H ⟨op,ka,kb,kc,n⟩).num∧As=hp a z∧z.H=(doCell x.H ⟨op,ka,kb,kc,n⟩).heap):=by
 have hl:=x.len
 have hnc:x.hdr.nc=x.xs.length:=rfl
 have hnr:x.hdr.nr=x.regs.length:=rfl
 have h16:x.regs.length=16:=h.r1.regs
 obtain⟨w,gw⟩:∃w,x.regs[ka]?=some w:=⟨_,List.getElem?_eq_getElem (by omega)⟩
 have er:x.H.getR ka=w:=getR_at gw
 obtain⟨r1,r2⟩:=getR_ok h (r:=ka) (by omega) (by omega)
 rw[er]at r1 r2
 refine fnA_of (fun h=>fn57 (by simp) h) ?_
 unfold doCell
 dsimp only
 rw[er]
 by_cases hk:w.kind=2
 ·obtain⟨b0,b1,b2,b3⟩:=r2 hk
  obtain⟨j,hj⟩:=Int.eq_ofNat_of_zero_le b0
  obtain⟨wk,wn,wat⟩:=w
  dsimp only at hk hj b1
  subst hk hj
  obtain⟨y,gy,gc⟩:=HX.at (x:=x) (i:=j) (by omega)
  have gk:=HX.gc gy
  rw[if_neg (fun e=>e rfl)]
  dsimp only
  rw[gk]
  rcases ho with rfl|rfl|rfl
  ·repeat' (first|refine xx ?_|(refine k_L ?_;(refine k_c ?_;refine a_cq rfl (fun m hm=>l5fine_q) ?_))|fail)
   refine fa_r (fun _ _=>rfl) (Pm.ent (fin ({x with xs:=x.xs.set j (y.s_weak kc)}:HX) (e1:=by simp[HX.hdr]))) ⟨_,rfl,rfl,?_⟩
   show _=x.H.putW j kc
   unfold Heap.putW
   rw[gk]
   unfold HX.H
   simp only[List.map_set];rfl
  ·repeat' (first|refine xx ?_|(refine k_L ?_;(refine k_q ?_;refine a_q rfl (fun m hm=>l5fine_q) ?_))|fail)
   all_goals exact fa_r (fun _ _=>rfl) (Pm.ent pmt) ⟨x,rfl,rfl,rfl⟩
  ·repeat' (first|refine xx ?_|(refine k_L ?_;(refine k_q ?_;refine a_q rfl (fun m hm=>l5fine_q) ?_))|fail)
   all_goals exact fa_r (fun _ _=>rfl) (Pm.ent pmt) ⟨x,rfl,rfl,rfl⟩
 ·rw[if_pos hk]
  repeat' (first|refine xx ?_|(refine xy ?_ ?_<;>intro hb<;>try(exfalso;omega))|(refine k_L ?_;(refine k_c ?_;refine a_cq rfl (fun m hm=>l5bad_q) ?_))|fail)
  all_goals exact fa_r (fun _ _=>rfl) (Pm.ent pmt) ⟨x,rfl,rfl,rfl⟩
theorem shadeH_putL{H:Heap}{i t:Nat}{q:Int}(hi:i<H.cells.length)(ht:t<H.cells.length):(H.putL i q).shadeH t=(H.shadeH t).putL i q:=by
 have gC:(H.putL i q).getC t=if t=i then{H.getC i with last:=q}else H.getC t:=by
  have:(H.putL i q).getC t=if(t:Int).toNat=i then{H.getC i with last:=q}else H.getC t:=by rw[getC_L,getC_L];exact getL_set hi
  rw[this,Int.toNat_natCast]
 have hcl:((H.putL i q).getC t).color=(H.getC t).color:=by
  rw[gC];split
  ·rename_i e;rw[e]
  ·rfl
 unfold Heap.shadeH
 rw[hcl]
 have hm:Marking (H.putL i q)↔Marking H:=Iff.rfl
 by_cases c:Marking H∧(H.getC t).color=0
 ·rw[if_pos c,if_pos ⟨hm.2 c.1,c.2⟩,gC]
  have gD:(H.gray1 t (H.getC t)).getC i=if i=t then(H.getC t).col 1 else H.getC i:=by
   have:(H.gray1 t (H.getC t)).getC i=if(i:Int).toNat=t then(H.getC t).col 1 else H.getC i:=by rw[getC_L,getC_L];exact getL_set ht
   rw[this,Int.toNat_natCast]
  unfold Heap.putL
  rw[gD]
  unfold Heap.gray1
  by_cases e:t=i
  ·subst e
   rw[if_pos rfl,if_pos rfl]
   simp only[List.set_set];rfl
  ·rw[if_neg e,if_neg (fun h=>e h.symm)]
   simp only[Heap.mk.injEq,true_and,and_true]
   exact List.set_comm _ _ (fun h=>e h.symm)
 ·rw[if_neg c,if_neg (fun h=>c ⟨hm.1 h.1,h.2⟩)]
theorem shadeW_putL{H:Heap}{i:Nat}{q:Int}{w:Word}(hi:i<H.cells.length)(hf:Formed H w):(H.putL i q).shadeW w=(H.shadeW w).putL i q:=by
 unfold Heap.shadeW
 by_cases hk:w.kind=2
 ·rw[if_pos hk,if_pos hk]
  have:=hf.at hk
  exact shadeH_putL hi (by omega)
 ·rw[if_neg hk,if_neg hk]
theorem l5cell_b{a:Nat}{x:HX}{op n:Int}{ka kb kc:Nat}(h:Sound x.H)(ha:ka≤15)(ho:op=10∨op=12):FnA Tryz.prog 57 [ptr a,.agg #[.int .i64 op,.int .i64 ka,.int .i64 kb,.int .i64 kc,.int .i64 n]] (hp a x) (fun v As=>∃z:HX,v=an (doCell x.H ⟨op,ka,kb,kc,n⟩).code (doCell x.H ⟨op,ka,kb,kc,n⟩).num∧As=hp a z∧z.H=(doCell x.H ⟨op,ka,kb,kc,n⟩).heap):=by
 have hl:=x.len
 have hnc:x.hdr.nc=x.xs.length:=rfl
 have hnr:x.hdr.nr=x.regs.length:=rfl
 have h16:x.regs.length=16:=h.r1.regs
 obtain⟨w,gw⟩:∃w,x.regs[ka]?=some w:=⟨_,List.getElem?_eq_getElem (by omega)⟩
 have er:x.H.getR ka=w:=getR_at gw
 obtain⟨r1,r2⟩:=getR_ok h (r:=ka) (by omega) (by omega)
 rw[er]at r1 r2
 refine fnA_of (fun h=>fn57 (by simp) h) ?_
 unfold doCell
 dsimp only
 rw[er]
 by_cases hk:w.kind=2
 ·obtain⟨b0,b1,b2,b3⟩:=r2 hk
  obtain⟨j,hj⟩:=Int.eq_ofNat_of_zero_le b0
  obtain⟨wk,wn,wat⟩:=w
  dsimp only at hk hj b1 b2
  subst hk hj
  obtain⟨y,gy,gc⟩:=HX.at (x:=x) (i:=j) (by omega)
  have gk:=HX.gc gy
  have hpl:=h.r2.pl (List.mem_of_getElem? gc)
  rw[if_neg (fun e=>e rfl)]
  dsimp only
  rw[Int.toNat_natCast]
  rcases ho with rfl|rfl
  ·repeat' (first|refine xx ?_|(refine k_L ?_;first|(refine k_c ?_;refine a_cq rfl (fun m hm=>l5fine_q) ?_)|(refine g_c rfl (l5cut_a (x:=x) (i:=j) (n:=kc) h (by omega) b2) (fun v As' hq=>?_);obtain⟨z,rfl,hz⟩:=hq))|fail)
   all_goals exact fa_r (fun _ _=>rfl) (Pm.ent pmt) ⟨z,rfl,rfl,hz⟩
  ·have zH:HX.H {x with xs:=x.xs.set j (y.s_last kc)}=x.H.putL j kc:=by
    unfold Heap.putL
    rw[gk]
    unfold HX.H
    simp only[List.map_set];rfl
   by_cases hc1:(kc:Int)=1
   ·have hkc:kc=1:=by omega
    subst hkc
    rw[if_pos hc1]
    repeat' (first|refine xx ?_|fail)
    refine LA.ent (Pm.ent (fin ({x with xs:=x.xs.set j (y.s_last (1:Nat))}:HX) (e1:=by simp[HX.hdr]))) ?_
    refine g_c rfl (l3shade_a (x:={x with xs:=x.xs.set j (y.s_last (1:Nat))}) (w:=⟨2,wn,j⟩) (fun hk=>by rw[zH];have:=r1.at hk;show _∧_<((x.H.cells.set j _).length:Int);rw[List.length_set];exact this) (by have:=h.r1.gray;have:=h.r1.cells;have:=h.r1.room;show x.gray.length≤_;have e:x.H.gray.length=x.gray.length:=rfl;omega)) (fun v' As' hq=>?_)
    obtain⟨u,rfl,rfl,hu,_⟩:=hq
    repeat' (first|refine xx ?_|(refine k_L ?_;(refine k_c ?_;refine a_cq rfl (fun m hm=>l5fine_q) ?_))|fail)
    all_goals exact fa_r (fun _ _=>rfl) (Pm.ent pmt) ⟨u,rfl,rfl,by rw[hu,zH,shadeW_putL (by omega) r1];rfl⟩
   ·rw[if_neg hc1]
    repeat' (first|refine xx ?_|(refine xy ?_ ?_<;>intro hb<;>try(exfalso;omega))|(refine k_L ?_;(refine k_c ?_;refine a_cq rfl (fun m hm=>l5fine_q) ?_))|fail)
    all_goals exact fa_r (fun _ _=>rfl) (Pm.ent (fin ({x with xs:=x.xs.set j (y.s_last kc)}:HX) (e1:=by simp[HX.hdr]))) ⟨_,rfl,rfl,zH⟩
 ·rw[if_pos hk]
  rcases ho with rfl|rfl
  ·repeat' (first|refine xx ?_|(refine xy ?_ ?_<;>intro hb<;>try(exfalso;omega))|(refine k_L ?_;(refine k_c ?_;refine a_cq rfl (fun m hm=>l5bad_q) ?_))|fail)
   all_goals exact fa_r (fun _ _=>rfl) (Pm.ent pmt) ⟨x,rfl,rfl,rfl⟩
  ·repeat' (first|refine xx ?_|(refine xy ?_ ?_<;>intro hb<;>try(exfalso;omega))|(refine k_L ?_;(refine k_c ?_;refine a_cq rfl (fun m hm=>l5bad_q) ?_))|fail)
   all_goals exact fa_r (fun _ _=>rfl) (Pm.ent pmt) ⟨x,rfl,rfl,rfl⟩
end Go.Proofs.YtpleoapljeffiaaGreatDoor.E
namespace Go.Proofs.YtpleoapljeffiaaGreatDoor.E
open Go
noncomputable def e55:Env:=⟨Tryz.prog,[3,4,6,73],105,[(5,0),(10,7),(11,7),(13,9)]⟩
abbrev qg(a0:Nat)(a1:Int)(a2:Int)(a3:Int)(a4:Int)(a5:Int)(a6:Int)(a7:Int)(a8:Nat)(a9:Nat)(a10:Nat)(a11:Nat)(a12:Int)(a13:Nat)(a14:Nat)(a15:Nat)(a16:Nat)(a17:Nat)(a18:Nat)(a19:Nat)(a20:Nat)(a21:Nat):I:=⟨some a0,none,.build [.int .i64 a1,.int .i64 a2,.int .i64 a3,.int .i64 a4,.int .i64 a5,.int .i64 a6,.int .i64 a7,.slice none a8 a9] [(a10,a11,.const (.int .i64 a12)),(a13,a14,.tmp a15),(a16,a17,.tmp a18),(a19,a20,.tmp a21)]⟩
noncomputable def c55:C:=
 .seq (.reg [zT 3 1,zq 4 0 0]) (.seq (.reg [z4 8 3 3,z5 9 1 8,qT 10 1 9,z3 5 10]) (.seq (.seq (.reg [z3 11 0,z6 12 11,z4 13 2 12,z5 14 1 13,zA 15 14 1000000000,z3 16 15,zQ 17 16 0,zQ 18 16 5,qN 19 16 90 17 18,zf 20 16 19,zR 21 16 20]) (.cond (.tmp 21) (.seq (.reg [ze 22 54 4,z7 2 4 22]) .ret) .skip)) (.seq (.reg [z3 23 0,z6 24 23,z4 25 2 24,z5 26 1 25,zG 27 26 1,z6 28 23,z4 29 2 28,z7 1 29
 27]) (.seq (.hreg [3,4,73] [z4 30 2 3,z5 31 1 30,z3 32 0,z6 33 32,z4 34 2 33,z5 35 1 34,z4 36 3 3,z5 37 1 36] (.alt (qj 38 6 48 0 0 0 0 0 0 37 37) (.alt (qg 39 0 0 0 0 0 0 0 0 0 0 1 1 1 1 31 4 1 35 7 1 38) (.alt (zX 6 0 0 0 0 0 0 0 0 0) (.alf (z7 8 6 39) (.done) (.none)) (.none)) (.alt (zX 6 0 0 0 0 0 0 0 0 0) (.alt (qg 39 0 0 0 0 0 0 0 0 0 0 1 1 1 1 31 4 1 35 7 1 38) (.alf (z7 8 6 39) (.done)
 (.none)) (.none)) (.none))) (.alt (zX 6 0 0 0 0 0 0 0 0 0) (.alt (qj 38 6 48 0 0 0 0 0 0 37 37) (.alt (qg 39 0 0 0 0 0 0 0 0 0 0 1 1 1 1 31 4 1 35 7 1 38) (.alf (z7 8 6 39) (.done) (.none)) (.none)) (.none)) (.none)))) (.seq (.reg [z3 40 0,zM 41 91 40,z3 7 41]) (.seq (.seq (.reg [z3 42 0,zM 43 92 42,z3 44 43,zQ 45 44 0,za 46 44 45,zO 47 44 5 46,zP 48 44 1 47,zt 49 44 48 3,zQ 50 44 49,zJ 51 50 7,
 zJ 52 50 0,zU 53 50 52,zI 54 50 6 53,zF 55 50 1 54,qh 56 50 51 55,q8 57 44 50 56,zR 58 44 57]) (.cond (.tmp 58) (.reg [z4 59 5 6,zn 1 59 2]) .skip)) (.seq (.seq (.reg [z3 60 7,z3 61 0,z6 62 61,z4 63 4 62,z5 64 1 63,zE 65 64,zy 66 60 65]) (.cond (.tmp 66) (.dreg 7 [z3 67 0,z3 68 0,z6 69 68,z4 70 4 69,z5 71 1 70,z9 72 8 6,qx 73 1 8 0 0 0 0 0 0 0 0 0 0 8 72,qy 74 8 80 0 0 0 0 0 0 0 0 0 71 73,z6
 75 67,z4 76 4 75,z7 1 76 74]) (.dreg 7 [z3 77 0,z6 78 77,z4 79 4 78,z5 80 1 79,z3 81 7,z9 82 8 6,z8 83 8 80 81,z7 8 83 82]))) (.seq (.reg [z3 84 0,z6 85 84,z4 86 1 85,z5 87 1 86,z3 88 5,q4 89 87 88,z6 90 84,z4 91 1 90,z7 1 91 89]) (.seq (.dreg 9 [z3 92 0,z6 93 92,z4 94 3 93,z5 95 1 94,z4 96 1 3,z5 97 1 96,z3 98 7,q7 99 0 0 0 0 1 2 2 1 98,z8 100 3 95 97,z7 3 100 99]) (.seq (.reg [z3 101 0,z3
 102 5,zL 103 93 101 102]) (.seq (.reg [ze 104 58 0,z7 2 4 104]) .ret)))))))))))
theorem t55:Tryz.f55.body.bind (trC e55)=some c55:=by kernel_rfl
theorem r55:Tryz.f55.results.toList.mapM (trR Tryz.prog)=some [.cell 4 false 2]:=by kernel_rfl
theorem fn55{args:List Value}{M:Mem}{post:Value→Mem→Prop}(hl:args.length≤105)(h:VC e55 c55 (fnQ [.cell 4 false 2] post) (initS args 105) M):Fn Tryz.prog 55 args M post:=
 Fn.of' (E:=e55) Tryz.func55 t55 rfl r55 mixed hl h
noncomputable def e96:Env:=⟨Tryz.prog,[3,4,66],84,[(1,17),(6,9),(10,0),(11,9)]⟩
noncomputable def c96:C:=
 .seq (.reg [zT 3 1,zq 4 0 0]) (.seq (.dreg 17 [z3 8 0,z6 9 8,z4 10 4 9,z5 11 1 10,z3 12 0,z6 13 12,z4 14 3 13,z5 15 1 14,z4 16 1 3,z5 17 1 16,z8 18 3 15 17,z4 19 2 18,z5 20 1 19,z8 21 8 11 20,z4 22 7 21,z5 23 1 22,zE 24 23,z3 5 24]) (.seq (.seq (.reg [z3 25 5,z4 26 3 3,z5 27 1 26,q4 28 25 27,qP 29 28 200]) (.cond (.tmp 29) (.seq (.reg [ze 30 54 5,z7 2 4 30]) .ret) .skip)) (.seq (.seq (.reg [
 z3 31 0,z4 32 3 3,z5 33 1 32,zL 34 90 31 33,zV 35 34]) (.cond (.tmp 35) (.seq (.reg [ze 36 54 4,z7 2 4 36]) .ret) .skip)) (.seq (.dreg 9 [z3 37 0,z6 38 37,z4 39 3 38,z5 40 1 39,z4 41 1 3,z5 42 1 41,z8 43 3 40 42,z4 44 2 43,z5 45 1 44,z3 6 45]) (.seq (.seq (.reg [zC 7 0]) (.block 0 (.loop (.seq (.seq (.reg [z3 46 7,z4 47 3 3,z5 48 1 47,zN 49 46 48]) (.cond (.tmp 49) .skip (.exit 0))) (.seq
 (.block 1 (.hreg [3,4] [z3 52 0,z6 53 52,z4 54 4 53,z5 55 1 54,z3 56 6,z3 57 0,z6 58 57,z4 59 4 58,z5 60 1 59,z3 61 6,z8 62 8 60 61,z4 63 7 62,z5 64 1 63,⟨some 65,none,.build [.int .i64 0,.int .i64 0,.int .i64 0,.int .i64 0,.int .i64 0,.int .i64 0] []⟩] (.alt (j2 66 1 6 0 0 0 0 0 0 0 6 65) (.alt (qn 67 6 48 0 0 0 0 0 0 64 66) (.alf (z8 68 8 55 56) (.alf (z4 69 7 68) (.alf (z7 1 69 67) (.done)
 (.none)) (.none)) (.none)) (.none)) (.none)))) (.reg [z3 50 7,zG 51 50 1,z3 7 51])))))) (.seq (.dreg 9 [z3 70 0,z6 71 70,z4 72 1 71,z5 73 1 72,z4 74 3 3,z5 75 1 74,q4 76 73 75,z6 77 70,z4 78 1 77,z7 1 78 76]) (.seq (.reg [z3 79 0,z4 80 3 3,z5 81 1 80,zL 82 93 79 81]) (.seq (.reg [ze 83 58 0,z7 2 4 83]) .ret))))))))
theorem t96:Tryz.f96.body.bind (trC e96)=some c96:=by kernel_rfl
theorem r96:Tryz.f96.results.toList.mapM (trR Tryz.prog)=some [.cell 4 false 2]:=by kernel_rfl
theorem fn96{args:List Value}{M:Mem}{post:Value→Mem→Prop}(hl:args.length≤84)(h:VC e96 c96 (fnQ [.cell 4 false 2] post) (initS args 84) M):Fn Tryz.prog 96 args M post:=
 Fn.of' (E:=e96) Tryz.func96 t96 rfl r96 mixed hl h
end Go.Proofs.YtpleoapljeffiaaGreatDoor.E
namespace Go.Proofs.YtpleoapljeffiaaGreatDoor.E
open Go
open Classical
theorem cl_split{cd:D}{ys:List CS}{i:Nat}{y:CS}{R:List Asr}(hi:ys[i]?=some y):Ent (clA cd ys::R) (slA 8 csv cd ys::slA 6 pv y.d y.c.pairs::prA (ys.eraseIdx i)::R):=cl_open.trans (Ent.cons (ent_of fun m hm=>by
 obtain⟨a,b,d,rfl,h1,h2⟩:=hm
 have:=pr_out hi h1
 obtain⟨c,e,d2,rfl,k1,k2⟩:=star2.1 this
 refine⟨c,e.un b,?_,un_assoc _ _ _,k1,e,b,(disj_un'.1 d).2,rfl,k2,h2⟩
 exact disj_un.2 ⟨d2,(disj_un'.1 d).1⟩))
theorem cl_join{cd:D}{ys:List CS}{i:Nat}{y':CS}{R:List Asr}(hi:i<ys.length):Ent (slA 8 csv cd (ys.set i y')::slA 6 pv y'.d y'.c.pairs::prA (ys.eraseIdx i)::R) (clA cd (ys.set i y')::R):=(Ent.cons (ent_of fun m hm=>by
 obtain⟨c,r,d,rfl,k1,e,b,d2,rfl,k2,h2⟩:=hm
 obtain⟨d3,d4⟩:=disj_un.1 d
 refine⟨c.un e,b,disj_un'.2 ⟨d4,d2⟩,(un_assoc _ _ _).symm,pr_in hi (star2.2 ⟨c,e,d3,rfl,k1,k2⟩),h2⟩)).trans cl_close
def Heap.addP(K:Heap)(i n:Nat):Heap:={K with cells:=K.cells.set i {K.getC i with pairs:=(K.getC i).pairs++List.replicate n Pair.no}}
theorem addP_zero{K:Heap}{i:Nat}(hi:i<K.cells.length):K.addP i 0=K:=by
 unfold Heap.addP
 have e1:K.cells.set i {K.getC i with pairs:=(K.getC i).pairs++List.replicate 0 Pair.no}=K.cells:=by
  rw[List.replicate_zero,List.append_nil]
  refine List.ext_getElem? fun j=>?_
  rw[List.getElem?_set]
  split
  ·rename_i e
   subst e
   rw[get_at hi]
  ·rfl
 rw[e1]
theorem addP_get{K:Heap}{i n:Nat}(hi:i<K.cells.length):(K.addP i n).getC i={K.getC i with pairs:=(K.getC i).pairs++List.replicate n Pair.no}:=by
 have:(K.addP i n).getC i=if(i:Int).toNat=i then{K.getC i with pairs:=(K.getC i).pairs++List.replicate n Pair.no}else K.getC i:=by rw[getC_L,getC_L];exact getL_set hi
 rw[this,if_pos (by omega)]
theorem addP_len{K:Heap}{i n:Nat}:(K.addP i n).cells.length=K.cells.length:=by unfold Heap.addP;simp
theorem growC_add{K:Heap}{i n:Nat}:K.growC i n={K.addP i n with used:=K.used+n}:=rfl
theorem addP_succ{K:Heap}{i n:Nat}(hi:i<K.cells.length):{K.addP i n with cells:=(K.addP i n).cells.set i {(K.addP i n).getC i with pairs:=((K.addP i n).getC i).pairs++[Pair.no]}}=K.addP i (n+1):=by
 rw[addP_get hi]
 unfold Heap.addP
 simp only[List.set_set,List.append_assoc,Heap.mk.injEq,true_and,and_true]
 rw[List.replicate_succ']
theorem l5grow_a{a:Nat}{x:HX}{op n:Int}{ka kb kc:Nat}(h:Sound x.H)(ha:ka≤15)(hc:kc≤200)(hk0:(x.H.getR ka).kind=2):FnA Tryz.prog 96 [ptr a,.agg #[.int .i64 op,.int .i64 ka,.int .i64 kb,.int .i64 kc,.int .i64 n]] (hp a x) (fun v As=>∃z:HX,v=an (doGrow x.H ⟨op,ka,kb,kc,n⟩).code (doGrow x.H ⟨op,ka,kb,kc,n⟩).num∧As=hp a z∧z.H=(doGrow x.H ⟨op,ka,kb,kc,n⟩).heap):=by
 have hl:=x.len
 have hnc:x.hdr.nc=x.xs.length:=rfl
 have hnr:x.hdr.nr=x.regs.length:=rfl
 have h16:x.regs.length=16:=h.r1.regs
 obtain⟨w,gw⟩:∃w,x.regs[ka]?=some w:=⟨_,List.getElem?_eq_getElem (by omega)⟩
 have er:x.H.getR ka=w:=getR_at gw
 obtain⟨r1,r2⟩:=getR_ok h (r:=ka) (by omega) (by omega)
 have hk:=hk0
 rw[er]at r1 r2 hk
 obtain⟨b0,b1,b2,b3⟩:=r2 hk
 obtain⟨j,hj⟩:=Int.eq_ofNat_of_zero_le b0
 obtain⟨y,gy,gc⟩:=HX.at (x:=x) (i:=j) (by omega)
 have gk:=HX.gc gy
 have hpl:=h.r2.pl (List.mem_of_getElem? gc)
 refine fnA_of (fun h=>fn96 (by simp) h) ?_
 obtain⟨f1,f2,f3,f4,f5,f6,f7⟩:=fits_ok h kc
 obtain⟨q1,q2⟩:=reg_len h f1 f2 f3 (r:=ka) (by omega) (by omega) hk0
 unfold doGrow
 dsimp only
 obtain⟨wk,wn,wat⟩:=w
 dsimp only at hk hj b1 b2
 subst hk hj
 rw[er]at q2⊢
 dsimp only at q2⊢
 rw[gk]at q2⊢
 by_cases c1:(y.c.pairs.length:Int)+kc>200
 ·rw[if_pos c1]
  repeat' (first|(refine k_L ?_;(refine k_l ?_;first|refine a_l rfl (by exact rd_t (rd_h (rd_sl (fun _=>rfl) gw rfl))) ?_|refine g_l rfl ?_))|refine xx ?_|(refine xy ?_ ?_<;>intro hb<;>try(exfalso;omega))|(refine k_L ?_;(refine k_c ?_;refine a_cq rfl (fun m hm=>l5bad_q) ?_))|fail)
  all_goals exact fa_r (fun _ _=>rfl) (Pm.ent pmt) ⟨x,rfl,rfl,rfl⟩
 ·rw[if_neg c1]
  generalize hF:x.H.fitsH kc=F at*
  have key:∀z:HX,z.H=F→∃(wm:Int) (i:Nat) (u:CS),z.regs[ka]?=some ⟨2,wm,i⟩∧z.xs[i]?=some u∧F.getC i=u.c∧(F.getR ka).at_=i∧i<F.cells.length∧z.xs.length=F.cells.length∧z.regs.length=16:=by
   intro z hz
   have g16:z.regs.length=16:=by have:=f1.r1.regs;rw[←hz]at this;exact this
   obtain⟨v,gv⟩:∃w,z.regs[ka]?=some w:=⟨_,List.getElem?_eq_getElem (by omega)⟩
   have ev:F.getR ka=v:=by rw[←hz];exact getR_at gv
   obtain⟨_,s2⟩:=getR_ok f1 (r:=ka) (by omega) (by omega)
   rw[ev]at q1 s2⊢
   obtain⟨t0,t1,t2,t3⟩:=s2 q1
   obtain⟨i,hi⟩:=Int.eq_ofNat_of_zero_le t0
   obtain⟨vk,vn,vat⟩:=v
   dsimp only at q1 hi t1
   subst q1 hi
   have zl:=z.len
   rw[hz]at zl
   obtain⟨u,gu,gc'⟩:=HX.at (x:=z) (i:=i) (by omega)
   exact⟨vn,i,u,gv,gu,by rw[←hz];exact HX.gc gu,rfl,by omega,by omega,g16⟩
  by_cases c2:F.used+kc≤F.room
  ·rw[if_pos c2]
   repeat' (first|(refine k_L ?_;(refine k_l ?_;first|refine a_l rfl (by exact rd_t (rd_h (rd_sl (fun _=>rfl) gw rfl))) ?_|refine a_l rfl (by exact rd_t (rd_h (rd_sl (fun _=>rfl) gv rfl))) ?_|refine g_l rfl ?_))|refine xx ?_|(refine xy ?_ ?_<;>intro hb<;>try(exfalso;omega))|(refine k_L ?_;first|(refine k_c ?_;refine a_cq rfl (fun m hm=>l5bad_q) ?_)|(refine g_c rfl (l5room_a (x:=x) (u:=(kc:Int)) h (by omega)) (fun v As' hq=>?_);obtain⟨z,rfl,rfl,hz⟩:=hq;obtain⟨wm,i,u,gv,gu,gF,ei,hi,zl,z16⟩:=key z (by rw[hz,hF]);have znc:z.hdr.nc=z.xs.length:=rfl;have znr:z.hdr.nr=z.regs.length:=rfl))|fail)
   ·exfalso;rw[hF]at hb;omega
   rw[hF]at hz
   have eL:u.c.pairs.length=y.c.pairs.length:=by rw[←gF,←ei];exact q2
   have i0:(F.getR ka).at_.toNat=i:=by omega
   rw[i0]
   refine v_blk ?_
   refine v_loop (fun q:Nat×HX=>[(0,.v (ptr a)),(3,.box [.int .i64 op,.int .i64 ka,.int .i64 kb,.int .i64 kc,.int .i64 n]),(4,.box [.int .i64 0,.int .i64 0]),(6,.v (.int .i64 i)),(7,.v (.int .i64 q.1))]) (fun q=>hp a q.2) (fun k q=>k=kc-q.1∧q.1≤kc∧q.2.H=F.addP i q.1) ⟨_,(0,z),⟨rfl,rfl,rfl,rfl,rfl,trivial⟩,Pm.ent pmt,rfl,Nat.zero_le _,by rw[hz];exact(addP_zero hi).symm⟩ ?_
   rintro k ⟨m,s⟩ ⟨rfl,hm,hs⟩
   simp only at hm hs
   dsimp only
   have sl:s.xs.length=F.cells.length:=by rw[←s.len,hs,addP_len]
   have snc:s.hdr.nc=s.xs.length:=rfl
   obtain⟨v,gs,gsc⟩:=HX.at (x:=s) (i:=i) (by omega)
   have gsk:=HX.gc gs
   rw[hs,addP_get hi]at gsk
   have evl:v.c.pairs.length=y.c.pairs.length+m:=by rw[←gsk];simp[gF,eL]
   by_cases hmk:m<kc
   ·repeat' (first|refine xx ?_|(refine xy ?_ ?_<;>intro hb<;>try(exfalso;omega))|fail)
    refine v_blk ?_
    refine VA.ent (Bs:=[slA 6 pv v.d v.c.pairs,prA (s.xs.eraseIdx i),slA 3 wv s.rd s.regs,slA 1 iv s.gd s.gray,hdA a s.hdr,slA 8 csv s.cd s.xs]) ?_ ?_
    ·exact((Pm.ent (As1:=[clA s.cd s.xs,slA 3 wv s.rd s.regs,slA 1 iv s.gd s.gray,hdA a s.hdr]) pmt).trans (cl_split gs)).trans (Pm.ent pmt)
    refine v_hreg (Gs:=[slA 6 pv v.d v.c.pairs,prA (s.xs.eraseIdx i),slA 3 wv s.rd s.regs,slA 1 iv s.gd s.gray]) [hdA a s.hdr,slA 8 csv s.cd s.xs] ⟨fun m hm=>hm⟩ ?_
    repeat' (first
     |(refine k_L ?_;first|refine a_p rfl ?_|(refine k_l ?_;first|refine a_l rfl (by exact rd_t (rd_h (rd_sl (fun _=>rfl) gs rfl))) ?_|refine g_l rfl ?_)|(refine k_i ?_;refine g_i rfl rfl ?_)|(refine k_bl ?_;refine a_bl rfl ?_))
     |refine a_n ?_
     |refine t_a ?_ t_n
     |refine kl_1 rfl ?_
     |refine kl_0 ?_)
    refine g_ap (xs:=v.c.pairs) (e:=v.d) Pair.no pv_len rfl rfl rfl (by omega) (hb:=by omega) (fun e'=>?_)
    repeat' (first
     |(refine k_L ?_;first|refine a_p rfl ?_|(refine k_i ?_;refine g_i rfl rfl ?_))
     |refine a_n ?_
     |refine t_f ?_ t_n
     |refine kl_1 rfl ?_
     |refine kl_0 ?_)
    refine a_st rfl rfl rfl rfl (up_t (up_t (up_t (up_t (up_t (up_h (up_sl (j:=7) (e':=(⟨{v.c with pairs:=v.c.pairs++[Pair.no]},e'.a,e'.cap⟩:CS)) csv_len gs (by simp[Value.cells]) rfl))))))) ?_
    repeat' (first
     |(refine k_L ?_;first|(refine k_ad ?_;refine g_ad rfl rfl ?_)|refine a_p rfl ?_)
     |refine a_n ?_
     |(refine k_V ?_;refine v_reg ?_)
     |refine s_n ?_
     |refine t_d ?_)
    refine⟨_,(m+1,{s with xs:=s.xs.set i (⟨{v.c with pairs:=v.c.pairs++[Pair.no]},e'.a,e'.cap⟩:CS)}),?_,⟨rfl,rfl,rfl,rfl,rfl,trivial⟩,?_,rfl,hmk,?_⟩
    ·show kc-(m+1)<kc-m
     omega
    ·refine((Pm.ent (As1:=[slA 8 csv s.cd (s.xs.set i (⟨{v.c with pairs:=v.c.pairs++[Pair.no]},e'.a,e'.cap⟩:CS)),slA 6 pv e' (v.c.pairs++[Pair.no]),prA (s.xs.eraseIdx i),slA 3 wv s.rd s.regs,slA 1 iv s.gd s.gray,hdA a s.hdr]) pmt).trans (cl_join (y':=(⟨{v.c with pairs:=v.c.pairs++[Pair.no]},e'.a,e'.cap⟩:CS)) (by omega))).trans (Pm.ent (fin ({s with xs:=s.xs.set i (⟨{v.c with pairs:=v.c.pairs++[Pair.no]},e'.a,e'.cap⟩:CS)}:HX) (e1:=by simp[HX.hdr])))
    ·show HX.H {s with xs:=s.xs.set i (⟨{v.c with pairs:=v.c.pairs++[Pair.no]},e'.a,e'.cap⟩:CS)}=F.addP i (m+1)
     have:=addP_succ (K:=F) (i:=i) (n:=m) hi
     rw[←this,←hs,HX.gc gs]
     unfold HX.H
     simp only[List.map_set]
   ·have em:m=kc:=by omega
    subst em
    have hsu:s.H.used=F.used:=by rw[hs];rfl
    have su:=hsu
    have e1:s.hdr.used=s.H.used:=rfl
    have ub:=f1.r3
    have un:=unitsN_nn F.cells
    have rb:=f1.r1.room
    unfold R3 at ub
    repeat' (first|refine xx ?_|(refine xy ?_ ?_<;>intro hb<;>try(exfalso;omega))|fail)
    have zS:Sound (HX.H {s with used:=s.used+m}):=by
     have:HX.H {s with used:=s.used+m}=F.growC i m:=by
      rw[growC_add,←hs,←hsu];rfl
     rw[this]
     refine grow_sound f1 hi ?_ ?_ c2
     ·obtain⟨_,s2⟩:=getR_ok f1 (r:=ka) (by omega) (by omega)
      rw[ei]at s2
      exact(s2 q1).2.2.1
     ·rw[gF,eL];omega
    refine LA.ent (Pm.ent (fin ({s with used:=s.used+m}:HX))) ?_
    refine g_c rfl (l5pace_a (x:={s with used:=s.used+m}) (u:=(m:Int)) zS (by omega)) (fun v' As' hq=>?_)
    obtain⟨r,rfl,hr⟩:=hq
    repeat' (first|refine xx ?_|(refine k_L ?_;(refine k_c ?_;refine a_cq rfl (fun m hm=>l5fine_q) ?_))|fail)
    exact fa_r (fun _ _=>rfl) (Pm.ent pmt) ⟨r,rfl,rfl,by rw[hr];congr 1;rw[Int.toNat_natCast,growC_add,←hs,←hsu];rfl⟩
  ·rw[if_neg c2]
   repeat' (first|(refine k_L ?_;(refine k_l ?_;first|refine a_l rfl (by exact rd_t (rd_h (rd_sl (fun _=>rfl) gw rfl))) ?_|refine g_l rfl ?_))|refine xx ?_|(refine xy ?_ ?_<;>intro hb<;>try(exfalso;omega))|(refine k_L ?_;first|(refine k_c ?_;refine a_cq rfl (fun m hm=>l5bad_q) ?_)|(refine g_c rfl (l5room_a (x:=x) (u:=(kc:Int)) h (by omega)) (fun v As' hq=>?_);obtain⟨z,rfl,rfl,hz⟩:=hq))|fail)
   all_goals first
    |(exfalso;rw[hF]at hb;omega)
    |exact fa_r (fun _ _=>rfl) (Pm.ent pmt) ⟨z,rfl,rfl,by rw[hz,hF]⟩
theorem v_via{E:Env}{a:C}{K:St→List Asr→Prop}{Q:X→St→List Asr→Prop}{S:St}{As:List Asr}(J:St→List Asr→Prop)(h:VA E a (seqA J Q) S As)(h2:∀S As,J S As→K S As):VA E a (seqA K Q) S As:=
 v_mono h fun x S As hq=>by cases x<;>first|exact h2 _ _ hq|exact hq
theorem frG_born{H:Heap}{b:Int}:∀k:Nat,frG {H with born:=b} k=frG H k
 |0=>rfl
 |k+1=>by
  simp only[frG]
  rw[frG_born k]
  rfl
def HX.bn(x:HX):HX:={x with born:=x.born+1}
theorem l5make_a{a:Nat}{x:HX}{op n:Int}{ka kb kc:Nat}(h:Sound x.H)(ha:ka≤15)(hb:kb≤255)(hc:kc≤200):FnA Tryz.prog 55 [ptr a,.agg #[.int .i64 op,.int .i64 ka,.int .i64 kb,.int .i64 kc,.int .i64 n]] (hp a x) (fun v As=>∃z:HX,v=an (doNew x.H ⟨op,ka,kb,kc,n⟩).code (doNew x.H ⟨op,ka,kb,kc,n⟩).num∧As=hp a z∧z.H=(doNew x.H ⟨op,ka,kb,kc,n⟩).heap):=by
 have hl:=x.len
 have e1:x.hdr.born=x.H.born:=rfl
 refine fnA_of (fun h=>fn55 (by simp) h) ?_
 obtain⟨f1,f2,f3,f4,f5,f6,f7⟩:=fits_ok h (1+kc)
 unfold doNew
 dsimp only
 by_cases c0:x.H.born=1000000000
 ·rw[if_pos c0]
  repeat' (first|refine xx ?_|(refine xy ?_ ?_<;>intro hb<;>try(exfalso;omega))|(refine k_L ?_;(refine k_c ?_;refine a_cq rfl (fun m hm=>l5bad_q) ?_))|fail)
  all_goals exact fa_r (fun _ _=>rfl) (Pm.ent pmt) ⟨x,rfl,rfl,rfl⟩
 ·rw[if_neg c0]
  generalize hF:x.H.fitsH (1+kc)=F at*
  have hbn:=f1.r1.born
  by_cases c2:F.used+(1+kc)≤F.room
  ·rw[if_pos c2]
   repeat' (first|refine xx ?_|(refine xy ?_ ?_<;>intro hb<;>try(exfalso;omega))|(refine k_L ?_;first|(refine k_c ?_;refine a_cq rfl (fun m hm=>l5bad_q) ?_)|(refine g_c rfl (l5room_a (x:=x) (u:=1+(kc:Int)) h (by omega)) (fun v As' hq=>?_);obtain⟨z,rfl,rfl,hz⟩:=hq;rw[hF]at hz;have zb:z.hdr.born=F.born:=congrArg Heap.born hz))|fail)
   ·exfalso;rw[hF]at hb;omega
   subst hz
   have zl:=z.len
   have z16:z.regs.length=16:=f1.r1.regs
   have g3:=f1.r1.cells
   have g2:=f1.r1.room
   have ub:=f1.r3
   have un:=unitsN_nn z.H.cells
   unfold R3 at ub
   refine VA.ent (Pm.ent (fin z.bn)) ?_
   refine v_via (fun S As=>∃g:D,leA [(0,.v (ptr a)),(3,.box [.int .i64 op,.int .i64 ka,.int .i64 kb,.int .i64 kc,.int .i64 n]),(4,.box [.int .i64 0,.int .i64 0]),(5,.v (.int .i64 (1+kc))),(6,.box [.int .i64 1,.int .i64 kb,.int .i64 0,.int .i64 0,.int .i64 (z.born+1),.int .i64 0,.int .i64 0,.slice g.a (List.replicate kc Pair.no).length g.cap])] S∧Ent As (slA 6 pv g (List.replicate kc Pair.no)::hp a z.bn)) ?_ ?_
   ·refine v_hreg (Gs:=[slA 3 wv z.bn.rd z.bn.regs,clA z.bn.cd z.bn.xs,slA 1 iv z.bn.gd z.bn.gray]) [hdA a z.bn.hdr] pmt ?_
    repeat' (first
     |(refine k_L ?_;first|refine a_p rfl ?_|(refine k_l ?_;refine g_l rfl ?_)|(refine k_st ?_;refine g_sw rfl rfl rfl rfl (Nat.le_of_ble_eq_true rfl) ?_)|(refine k_al ?_;refine a_al ?_)|(refine a_mk (f:=pv) (n:=(kc:Int)) (k:=(kc:Int)) Pair.no pv_len rfl rfl rfl (by omega) (by omega) (fun g hg=>?_)))
     |refine a_n ?_
     |refine s_n ?_
     |refine sk_zero ?_
     |refine sk_succ ?_
     |refine wk_nil ?_
     |refine wk_cons ?_
     |refine t_a ?_ t_n
     |refine t_f ?_ t_n
     |refine t_a ?_ ?_
     |refine t_d ?_
     |refine kl_1 rfl ?_
     |refine kl_0 ?_)
    all_goals exact⟨g,⟨rfl,rfl,rfl,rfl,(by rw[List.length_replicate];rfl),trivial⟩,Pm.ent pmt⟩
   rintro S As ⟨g,hS,hE⟩
   refine VA.ent hE (v_weak _ hS ?_)
   clear hS hE S As
   have hfr:frG z.bn.H z.bn.xs.length=frG z.H z.H.cells.length:=by rw[zl];exact frG_born (H:=z.H) (b:=z.born+1) _
   obtain⟨p0,p1,p2,p3⟩:=frG_ok z.H z.H.cells.length
   obtain⟨j,hj⟩:=Int.eq_ofNat_of_zero_le p0
   have ef:frG z.bn.H z.bn.xs.length=j:=hfr.trans hj
   have xph:z.bn.hdr.phase=z.H.phase:=rfl
   have xha:z.bn.hdr.hand=z.H.hand:=rfl
   have xnc:z.bn.hdr.nc=z.xs.length:=rfl
   have xnr:z.bn.hdr.nr=z.regs.length:=rfl
   have xus:z.bn.hdr.used=z.H.used:=rfl
   have xxs:z.bn.xs.length=z.xs.length:=rfl
   have hmk:Marking z.bn.H↔Marking z.H:=Iff.rfl
   refine v_seq (v_reg ?_)
   repeat' (first
    |(refine k_L ?_;first|refine a_p rfl ?_|(refine k_c ?_;refine a_cq rfl (fun m hm=>qt_e (l3free_q (x:=z.bn) (sep_has hm pmt)) (by rw[ef])) ?_))
    |refine a_n ?_
    |refine s_n ?_)
   refine v_seq (v_via (fun S As=>leA [(0,.v (ptr a)),(3,.box [.int .i64 op,.int .i64 ka,.int .i64 kb,.int .i64 kc,.int .i64 n]),(4,.box [.int .i64 0,.int .i64 0]),(5,.v (.int .i64 (1+kc))),(6,.box [.int .i64 1,.int .i64 kb,.int .i64 0,.int .i64 0,.int .i64 (z.born+1),.int .i64 (newCol z.H j),.int .i64 0,.slice g.a (List.replicate kc Pair.no).length g.cap]),(7,.v (.int .i64 j))] S∧Ent As (slA 6 pv g (List.replicate kc Pair.no)::hp a z.bn)) ?_ ?_)
   ·repeat' (first|refine xx ?_|(refine xy ?_ ?_<;>intro hb<;>try(exfalso;omega))|(refine k_L ?_;(refine k_c ?_;refine a_cq rfl (fun m hm=>l3marking_q (x:=z.bn) (sep_has hm pmt)) ?_))|fail)
    all_goals refine⟨⟨rfl,rfl,rfl,rfl,?_,rfl,trivial⟩,Pm.ent pmt⟩
    all_goals first
     |(rw[show newCol z.H j=2 by unfold newCol;rw[if_pos];unfold Marking at*;omega];rfl)
     |(rw[show newCol z.H j=0 by unfold newCol;rw[if_neg];unfold Marking at*;omega];rfl)
   rintro S As ⟨hS,hE⟩
   refine VA.ent hE (v_weak _ hS ?_)
   clear hS hE S As
   generalize hy:(⟨Cell.fresh kb (z.born+1) (newCol z.H j) kc,g.a,g.cap⟩:CS)=yn
   obtain⟨w,gw⟩:∃w,z.bn.regs[ka]?=some w:=⟨_,List.getElem?_eq_getElem (by show ka<z.regs.length;omega)⟩
   have hsl:slA 6 pv g (List.replicate kc Pair.no)=slA 6 pv yn.d yn.c.pairs:=by rw[←hy];rfl
   have hcol:0≤newCol z.H j:=by unfold newCol;split<;>omega
   by_cases hje:j=z.xs.length
   ·have hH:HX.H {z.bn with xs:=z.xs++[yn],used:=z.used+(1+kc),regs:=z.regs.set ka ⟨2,0,j⟩}=z.H.newH (ka:Int).toNat kb (kc:Int).toNat:=by
     unfold Heap.newH
     rw[hj,Int.toNat_natCast,Int.toNat_natCast,Int.toNat_natCast]
     unfold addC
     rw[if_pos (by rw[zl];exact hje),←hy]
     unfold HX.H HX.bn
     simp only[List.map_append,List.map_cons,List.map_nil,Heap.mk.injEq,true_and,and_true]
     omega
    repeat' (first|refine xx ?_|(refine xy ?_ ?_<;>intro hb<;>try(exfalso;omega))|fail)
    refine LA.ent (Bs:=[slA 8 csv z.bn.cd z.bn.xs,prA z.bn.xs,slA 6 pv g (List.replicate kc Pair.no),hdA a z.bn.hdr,slA 3 wv z.bn.rd z.bn.regs,slA 1 iv z.bn.gd z.bn.gray]) ?_ ?_
    ·exact(Pm.ent (As1:=[clA z.bn.cd z.bn.xs,slA 6 pv g (List.replicate kc Pair.no),hdA a z.bn.hdr,slA 3 wv z.bn.rd z.bn.regs,slA 1 iv z.bn.gd z.bn.gray]) pmt).trans (cl_open.trans (Pm.ent pmt))
    refine g_ap yn csv_len rfl rfl (by rw[←hy];rfl) (by omega) (hb:=by omega) (fun cd'=>?_)
    repeat' (first
     |(refine k_L ?_;first|(refine k_ad ?_;refine g_ad rfl rfl ?_)|(refine k_l ?_;refine g_l rfl ?_)|(refine k_i ?_;refine g_i rfl rfl ?_)|(refine k_st ?_;refine g_st rfl rfl rfl rfl ?_)|(refine b_w ⟨2,0,j⟩ rfl ?_)|(refine b_p rfl ?_))
     |refine a_n ?_
     |(refine k_V ?_;first|refine v_seq ?_|refine v_reg ?_|refine v_dreg ?_))
    refine LA.ent (Bs:=hp a ({z.bn with xs:=z.xs++[yn],cd:=cd',used:=z.used+(1+kc),regs:=z.regs.set ka ⟨2,0,j⟩}:HX)) ?_ ?_
    ·rw[hsl]
     refine((Pm.ent (As1:=[slA 8 csv cd' (z.xs++[yn]),prA z.xs,slA 6 pv yn.d yn.c.pairs,hdA a _,slA 3 wv z.rd (z.regs.set ka ⟨2,0,j⟩),slA 1 iv z.gd z.gray]) pmt).trans (cl_snoc (y:=yn))).trans (Pm.ent (fin ({z.bn with xs:=z.xs++[yn],cd:=cd',used:=z.used+(1+kc),regs:=z.regs.set ka ⟨2,0,j⟩}:HX) (h1:=by simp[HX.hdr,Hdr.s_room,Hdr.s_used,Hdr.s_born,Hdr.s_phase,Hdr.s_hand,Hdr.s_sub,Hdr.s_per,Hdr.s_start,Hdr.s_rounds,Hdr.s_forced,Hdr.s_rd,Hdr.s_cd,Hdr.s_gd,HX.bn]) (h2:=by simp[HX.hdr,Hdr.s_room,Hdr.s_used,Hdr.s_born,Hdr.s_phase,Hdr.s_hand,Hdr.s_sub,Hdr.s_per,Hdr.s_start,Hdr.s_rounds,Hdr.s_forced,Hdr.s_rd,Hdr.s_cd,Hdr.s_gd,HX.bn]) (e1:=by simp[HX.hdr,Hdr.s_room,Hdr.s_used,Hdr.s_born,Hdr.s_phase,Hdr.s_hand,Hdr.s_sub,Hdr.s_per,Hdr.s_start,Hdr.s_rounds,Hdr.s_forced,Hdr.s_rd,Hdr.s_cd,Hdr.s_gd,HX.bn])))
    refine g_c rfl (l5pace_a (x:=({z.bn with xs:=z.xs++[yn],cd:=cd',used:=z.used+(1+kc),regs:=z.regs.set ka ⟨2,0,j⟩}:HX)) (u:=1+(kc:Int)) (by show Sound (HX.H {z.bn with xs:=z.xs++[yn],used:=z.used+(1+kc),regs:=z.regs.set ka ⟨2,0,j⟩});rw[hH];exact new_sound f1 (by omega) (by omega) (by omega) (by omega)) (by omega)) (fun v' As' hq=>?_)
    obtain⟨r,rfl,hr⟩:=hq
    repeat' (first|refine xx ?_|(refine k_L ?_;(refine k_c ?_;refine a_cq rfl (fun m hm=>l5fine_q) ?_))|fail)
    exact fa_r (fun _ _=>rfl) (Pm.ent pmt) ⟨r,rfl,rfl,by rw[hr];exact congrArg (fun K=>K.paceH (1+(kc:Int))) hH⟩
   ·obtain⟨y0,gy0,gc0⟩:=HX.at (x:=z) (i:=j) (by omega)
    have gy0':z.bn.xs[j]?=some y0:=gy0
    have hH:HX.H {z.bn with xs:=z.xs.set j yn,used:=z.used+(1+kc),regs:=z.regs.set ka ⟨2,0,j⟩}=z.H.newH (ka:Int).toNat kb (kc:Int).toNat:=by
     unfold Heap.newH
     rw[hj,Int.toNat_natCast,Int.toNat_natCast,Int.toNat_natCast]
     unfold addC
     rw[if_neg (by rw[zl];exact hje),←hy]
     unfold HX.H HX.bn
     simp only[List.map_set,Heap.mk.injEq,true_and,and_true]
     omega
    repeat' (first|refine xx ?_|(refine xy ?_ ?_<;>intro hb<;>try(exfalso;omega))|fail)
    refine LA.ent (Bs:=[slA 8 csv z.bn.cd z.bn.xs,slA 6 pv y0.d y0.c.pairs,prA (z.bn.xs.eraseIdx j),slA 6 pv g (List.replicate kc Pair.no),hdA a z.bn.hdr,slA 3 wv z.bn.rd z.bn.regs,slA 1 iv z.bn.gd z.bn.gray]) ?_ ?_
    ·exact(Pm.ent (As1:=[clA z.bn.cd z.bn.xs,slA 6 pv g (List.replicate kc Pair.no),hdA a z.bn.hdr,slA 3 wv z.bn.rd z.bn.regs,slA 1 iv z.bn.gd z.bn.gray]) pmt).trans ((cl_split gy0').trans (Pm.ent pmt))
    refine a_st rfl rfl rfl rfl (up_h (up_sl (j:=0) (e':=yn) csv_len gy0' (by simp[Value.cells]) (by rw[←hy];rfl))) ?_
    repeat' (first
     |(refine k_L ?_;first|(refine k_ad ?_;refine g_ad rfl rfl ?_)|(refine k_l ?_;refine g_l rfl ?_)|(refine k_i ?_;refine g_i rfl rfl ?_)|(refine k_st ?_;refine g_st rfl rfl rfl rfl ?_)|(refine b_w ⟨2,0,j⟩ rfl ?_)|(refine b_p rfl ?_))
     |refine a_n ?_
     |(refine k_V ?_;first|refine v_seq ?_|refine v_reg ?_|refine v_dreg ?_))
    refine LA.ent (Bs:=hp a ({z.bn with xs:=z.xs.set j yn,used:=z.used+(1+kc),regs:=z.regs.set ka ⟨2,0,j⟩}:HX)) ?_ ?_
    ·rw[hsl]
     refine((Pm.ent (As1:=[slA 8 csv z.cd (z.xs.set j yn),slA 6 pv yn.d yn.c.pairs,prA (z.xs.eraseIdx j),hdA a _,slA 3 wv z.rd (z.regs.set ka ⟨2,0,j⟩),slA 1 iv z.gd z.gray]) pmt).trans (cl_join (y':=yn) (by omega))).trans (Pm.ent (fin ({z.bn with xs:=z.xs.set j yn,used:=z.used+(1+kc),regs:=z.regs.set ka ⟨2,0,j⟩}:HX) (h1:=by simp[HX.hdr,Hdr.s_room,Hdr.s_used,Hdr.s_born,Hdr.s_phase,Hdr.s_hand,Hdr.s_sub,Hdr.s_per,Hdr.s_start,Hdr.s_rounds,Hdr.s_forced,Hdr.s_rd,Hdr.s_cd,Hdr.s_gd,HX.bn]) (h2:=by simp[HX.hdr,Hdr.s_room,Hdr.s_used,Hdr.s_born,Hdr.s_phase,Hdr.s_hand,Hdr.s_sub,Hdr.s_per,Hdr.s_start,Hdr.s_rounds,Hdr.s_forced,Hdr.s_rd,Hdr.s_cd,Hdr.s_gd,HX.bn]) (e1:=by simp[HX.hdr,Hdr.s_room,Hdr.s_used,Hdr.s_born,Hdr.s_phase,Hdr.s_hand,Hdr.s_sub,Hdr.s_per,Hdr.s_start,Hdr.s_rounds,Hdr.s_forced,Hdr.s_rd,Hdr.s_cd,Hdr.s_gd,HX.bn])))
    refine g_c rfl (l5pace_a (x:=({z.bn with xs:=z.xs.set j yn,used:=z.used+(1+kc),regs:=z.regs.set ka ⟨2,0,j⟩}:HX)) (u:=1+(kc:Int)) (by show Sound (HX.H {z.bn with xs:=z.xs.set j yn,used:=z.used+(1+kc),regs:=z.regs.set ka ⟨2,0,j⟩});rw[hH];exact new_sound f1 (by omega) (by omega) (by omega) (by omega)) (by omega)) (fun v' As' hq=>?_)
    obtain⟨r,rfl,hr⟩:=hq
    repeat' (first|refine xx ?_|(refine k_L ?_;(refine k_c ?_;refine a_cq rfl (fun m hm=>l5fine_q) ?_))|fail)
    exact fa_r (fun _ _=>rfl) (Pm.ent pmt) ⟨r,rfl,rfl,by rw[hr];exact congrArg (fun K=>K.paceH (1+(kc:Int))) hH⟩
  ·rw[if_neg c2]
   repeat' (first|refine xx ?_|(refine xy ?_ ?_<;>intro hb<;>try(exfalso;omega))|(refine k_L ?_;first|(refine k_c ?_;refine a_cq rfl (fun m hm=>l5bad_q) ?_)|(refine g_c rfl (l5room_a (x:=x) (u:=1+(kc:Int)) h (by omega)) (fun v As' hq=>?_);obtain⟨z,rfl,rfl,hz⟩:=hq))|fail)
   all_goals first
    |(exfalso;rw[hF]at hb;omega)
    |exact fa_r (fun _ _=>rfl) (Pm.ent pmt) ⟨z,rfl,rfl,by rw[hz,hF]⟩
    |trace_state
theorem actOk_t{m:Mem}{b:Act}(h:ActP b):Qt Tryz.prog 53 [actV b] m (.bool true):=qt_e specActOk_q (congrArg Value.bool (decide_eq_true h))
theorem do_1{a:Nat}{x:HX}{n:Int}{ka kb kc:Nat}(h:Sound x.H)(hP:ActP ⟨1,ka,kb,kc,n⟩):FnA Tryz.prog 26 [ptr a,.agg #[.int .i64 1,.int .i64 ka,.int .i64 kb,.int .i64 kc,.int .i64 n]] (hp a x) (fun v As=>∃z:HX,v=an (doNew x.H ⟨1,ka,kb,kc,n⟩).code (doNew x.H ⟨1,ka,kb,kc,n⟩).num∧As=hp a z∧z.H=(doNew x.H ⟨1,ka,kb,kc,n⟩).heap):=by
 have hQ:=hP
 simp[ActP,aMost,bMost,cMost]at hQ
 refine fnA_of (fun h=>fn26 (by simp) h) ?_
 repeat' (first|refine xx ?_|(refine k_L ?_;first|(refine k_c ?_;refine a_cq rfl (fun m hm=>actOk_t (b:=⟨1,ka,kb,kc,n⟩) hP) ?_)|(refine g_c rfl (l5make_a (x:=x) (op:=1) (n:=n) (ka:=ka) (kb:=kb) (kc:=kc) h (by omega) (by omega) (by omega)) (fun v As' hq=>?_);obtain⟨z,rfl,rfl,hz⟩:=hq))|fail)
 all_goals exact fa_r (fun _ _=>rfl) (Pm.ent pmt) ⟨z,rfl,rfl,hz⟩
theorem do_5{a:Nat}{x:HX}{n:Int}{ka kb kc:Nat}(h:Sound x.H)(hP:ActP ⟨5,ka,kb,kc,n⟩):FnA Tryz.prog 26 [ptr a,.agg #[.int .i64 5,.int .i64 ka,.int .i64 kb,.int .i64 kc,.int .i64 n]] (hp a x) (fun v As=>∃z:HX,v=an (doPair x.H ⟨5,ka,kb,kc,n⟩).code (doPair x.H ⟨5,ka,kb,kc,n⟩).num∧As=hp a z∧z.H=(doPair x.H ⟨5,ka,kb,kc,n⟩).heap):=by
 have hQ:=hP
 simp[ActP,aMost,bMost,cMost]at hQ
 refine fnA_of (fun h=>fn26 (by simp) h) ?_
 repeat' (first|refine xx ?_|(refine k_L ?_;first|(refine k_c ?_;refine a_cq rfl (fun m hm=>actOk_t (b:=⟨5,ka,kb,kc,n⟩) hP) ?_)|(refine g_c rfl (l5pair_rd (x:=x) (op:=5) (n:=n) (ka:=ka) (kb:=kb) (kc:=kc) h (by omega) (by omega) (by omega)) (fun v As' hq=>?_);obtain⟨z,rfl,rfl,hz⟩:=hq))|fail)
 all_goals exact fa_r (fun _ _=>rfl) (Pm.ent pmt) ⟨z,rfl,rfl,hz⟩
theorem do_6{a:Nat}{x:HX}{n:Int}{ka kb kc:Nat}(h:Sound x.H)(hP:ActP ⟨6,ka,kb,kc,n⟩):FnA Tryz.prog 26 [ptr a,.agg #[.int .i64 6,.int .i64 ka,.int .i64 kb,.int .i64 kc,.int .i64 n]] (hp a x) (fun v As=>∃z:HX,v=an (doPair x.H ⟨6,ka,kb,kc,n⟩).code (doPair x.H ⟨6,ka,kb,kc,n⟩).num∧As=hp a z∧z.H=(doPair x.H ⟨6,ka,kb,kc,n⟩).heap):=by
 have hQ:=hP
 simp[ActP,aMost,bMost,cMost]at hQ
 refine fnA_of (fun h=>fn26 (by simp) h) ?_
 repeat' (first|refine xx ?_|(refine k_L ?_;first|(refine k_c ?_;refine a_cq rfl (fun m hm=>actOk_t (b:=⟨6,ka,kb,kc,n⟩) hP) ?_)|(refine g_c rfl (l5pair_rd (x:=x) (op:=6) (n:=n) (ka:=ka) (kb:=kb) (kc:=kc) h (by omega) (by omega) (by omega)) (fun v As' hq=>?_);obtain⟨z,rfl,rfl,hz⟩:=hq))|fail)
 all_goals exact fa_r (fun _ _=>rfl) (Pm.ent pmt) ⟨z,rfl,rfl,hz⟩
theorem do_7{a:Nat}{x:HX}{n:Int}{ka kb kc:Nat}(h:Sound x.H)(hP:ActP ⟨7,ka,kb,kc,n⟩):FnA Tryz.prog 26 [ptr a,.agg #[.int .i64 7,.int .i64 ka,.int .i64 kb,.int .i64 kc,.int .i64 n]] (hp a x) (fun v As=>∃z:HX,v=an (doPair x.H ⟨7,ka,kb,kc,n⟩).code (doPair x.H ⟨7,ka,kb,kc,n⟩).num∧As=hp a z∧z.H=(doPair x.H ⟨7,ka,kb,kc,n⟩).heap):=by
 have hQ:=hP
 simp[ActP,aMost,bMost,cMost]at hQ
 refine fnA_of (fun h=>fn26 (by simp) h) ?_
 repeat' (first|refine xx ?_|(refine k_L ?_;first|(refine k_c ?_;refine a_cq rfl (fun m hm=>actOk_t (b:=⟨7,ka,kb,kc,n⟩) hP) ?_)|(refine g_c rfl (l5pair_wr (x:=x) (op:=7) (n:=n) (ka:=ka) (kb:=kb) (kc:=kc) h (by omega) (by omega) (by omega)) (fun v As' hq=>?_);obtain⟨z,rfl,rfl,hz⟩:=hq))|fail)
 all_goals exact fa_r (fun _ _=>rfl) (Pm.ent pmt) ⟨z,rfl,rfl,hz⟩
theorem do_8{a:Nat}{x:HX}{n:Int}{ka kb kc:Nat}(h:Sound x.H)(hP:ActP ⟨8,ka,kb,kc,n⟩):FnA Tryz.prog 26 [ptr a,.agg #[.int .i64 8,.int .i64 ka,.int .i64 kb,.int .i64 kc,.int .i64 n]] (hp a x) (fun v As=>∃z:HX,v=an (doPair x.H ⟨8,ka,kb,kc,n⟩).code (doPair x.H ⟨8,ka,kb,kc,n⟩).num∧As=hp a z∧z.H=(doPair x.H ⟨8,ka,kb,kc,n⟩).heap):=by
 have hQ:=hP
 simp[ActP,aMost,bMost,cMost]at hQ
 refine fnA_of (fun h=>fn26 (by simp) h) ?_
 repeat' (first|refine xx ?_|(refine k_L ?_;first|(refine k_c ?_;refine a_cq rfl (fun m hm=>actOk_t (b:=⟨8,ka,kb,kc,n⟩) hP) ?_)|(refine g_c rfl (l5pair_wr (x:=x) (op:=8) (n:=n) (ka:=ka) (kb:=kb) (kc:=kc) h (by omega) (by omega) (by omega)) (fun v As' hq=>?_);obtain⟨z,rfl,rfl,hz⟩:=hq))|fail)
 all_goals exact fa_r (fun _ _=>rfl) (Pm.ent pmt) ⟨z,rfl,rfl,hz⟩
end Go.Proofs.YtpleoapljeffiaaGreatDoor.E
