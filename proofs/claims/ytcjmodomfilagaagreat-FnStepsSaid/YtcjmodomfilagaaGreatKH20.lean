/- A part of the proof. Conditions: none. -/
import Derived.Test.YtcjmodomfilagaaGreatKH19
set_option linter.unusedVariables false
set_option linter.unusedSimpArgs false
set_option maxHeartbeats 8000000
set_option maxRecDepth 100000
namespace Go.Proofs.YtcjmodomfilagaaGreat.E
open Go
open Classical
section
variable {pb pc ph:Nat} {ca:Option Addr} {cn cc:Nat} {m:Mem} {s1:DW} {B:Int}
theorem some_d(h1:DOk s1 B)(hc:Cod m ca cn)(hB:B≤500000000000000):FnA Tryz.prog 59 [ptr pb] (dwA pb pc ph ca cn cc m s1) (fun v As=>∃s',DOk s' (B+600)∧As=dwA pb pc ph ca cn cc m s'):=by
 refine fnA_of (fun h=>fn59 (by simp) h) ?_
 repeat' (first
  |(refine k_L ?_;first|(refine k_ad ?_;refine g_ad rfl rfl ?_)|refine a_p rfl ?_|(refine k_l ?_;refine g_l rfl ?_)|(refine g_c rfl (pick_d h1 hc (by omega) (by omega)) (fun v As' hq=>?_);obtain⟨k,s1,rfl,hk,h1,rfl⟩:=hq)|(refine g_c rfl (chain_d h1 hc (by omega) (by omega)) (fun v As' hq=>?_);obtain⟨s1,h1,rfl⟩:=hq)|(refine g_c rfl (weakly_d h1 hc (by omega)) (fun v As' hq=>?_);obtain⟨s1,h1,rfl⟩:=hq)|(refine g_c rfl (lastly_d h1 hc (by omega)) (fun v As' hq=>?_);obtain⟨s1,h1,rfl⟩:=hq)|(refine g_c rfl (ring_d h1 hc (by omega)) (fun v As' hq=>?_);obtain⟨s1,h1,rfl⟩:=hq)|(refine g_c rfl (work_d h1 hc (by omega)) (fun v As' hq=>?_);obtain⟨s1,h1,rfl⟩:=hq))
  |refine a_n ?_
  |(refine k_V ?_;first|refine v_seq ?_|refine v_reg ?_|refine v_bs ?_|(refine v_cd rfl (fun hb=>?_) (fun hb=>?_)<;>try(exfalso;omega)))
  |refine s_n ?_)
 all_goals try exact fa_n (fun _ _=>rfl) (Pm.ent pmt) ⟨s1,h1.up (by omega),rfl⟩
 refine v_blk ?_
 refine v_loop (fun q:Int×DW=>[(0,SV.v (ptr pb)),(3,SV.v (.int .i64 q.1))]) (fun q=>dwA pb pc ph ca cn cc m q.2) (fun k q=>(k:Int)=q.1∧(0≤q.1∧q.1≤9)∧DOk q.2 (B+400-32*q.1)) ⟨(2+k).toNat,(2+k,s1),⟨rfl,rfl,trivial⟩,Pm.ent pmt,show(((2+k).toNat:Nat):Int)=2+k by omega,by show 0≤2+k∧2+k≤9;omega,h1.up (by show _≤B+400-32*(2+k);omega)⟩ ?_
 rintro k ⟨i,s1⟩ ⟨hk0,hi,h1⟩
 dsimp only at hk0 hi h1⊢
 by_cases hin:i>0
 ·repeat' (first
   |(refine k_L ?_;first|(refine k_su ?_;refine g_su rfl rfl ?_)|refine a_p rfl ?_|(refine g_c rfl (act_d h1 hc (by omega)) (fun v As' hq=>?_);obtain⟨s1,h1,rfl⟩:=hq)|(refine g_c rfl (work_d h1 hc (by omega)) (fun v As' hq=>?_);obtain⟨s1,h1,rfl⟩:=hq))
   |refine a_n ?_
   |(refine k_V ?_;first|refine v_seq ?_|refine v_reg ?_|refine v_bs ?_|refine v_skip ?_|(refine v_cd rfl (fun hb=>?_) (fun hb=>?_)<;>try(exfalso;omega)))
   |refine s_n ?_)
  all_goals exact⟨(i-1).toNat,(i-1,s1),by omega,⟨rfl,rfl,trivial⟩,Pm.ent pmt,by show(((i-1).toNat:Nat):Int)=i-1;omega,⟨by show 0≤i-1;omega,by show i-1≤9;omega⟩,h1.up (by show _≤B+400-32*(i-1);omega)⟩
 ·repeat' (first
   |(refine k_L ?_;first|refine a_p rfl ?_|(refine g_c rfl (work_d h1 hc (by omega)) (fun v As' hq=>?_);obtain⟨s1,h1,rfl⟩:=hq))
   |refine a_n ?_
   |(refine k_V ?_;first|refine v_seq ?_|refine v_reg ?_|refine v_exit ?_|(refine v_cd rfl (fun hb=>?_) (fun hb=>?_)<;>try(exfalso;omega))))
  all_goals exact fa_n (fun _ _=>rfl) (Pm.ent pmt) ⟨s1,h1.up (by omega),rfl⟩
end
def Heap.new(room:Int):Heap:=⟨room,0,0,List.replicate 16 ⟨0,0,0⟩,[],0,0,0,[],0,0,0,0⟩
theorem new_heap_sound{room:Int}(h:1≤room∧room≤4000):Sound (Heap.new room) where
 r1:=⟨h,by simp[Heap.new],by simp[Heap.new];omega,by simp[Heap.new],by simp[Heap.new],by simp[Heap.new],by simp[Heap.new],by simp[Heap.new],by simp[Heap.new],by simp[Heap.new],by simp[Heap.new],by simp[Heap.new]⟩
 r2:=⟨fun i c hc=>by simp[Heap.new]at hc,fun i j c d hc=>by simp[Heap.new]at hc,fun i j c d hc=>by simp[Heap.new]at hc⟩
 r3:=⟨rfl,by show(0:Int)≤room;omega⟩
 r4:=⟨fun w hw=>by
  have:w=⟨0,0,0⟩:=List.eq_of_mem_replicate hw
  subst this
  exact⟨.inl ⟨rfl,rfl,rfl⟩,fun hk=>by simp at hk⟩,fun i c hc=>by simp[Heap.new]at hc,fun i c hc=>by simp[Heap.new]at hc⟩
 r5:=⟨fun hm=>by rcases hm with h|h<;>simp[Heap.new]at h,fun _=>⟨rfl,fun i c hc=>by simp[Heap.new]at hc⟩⟩
 r6:=by unfold R6;rw[if_pos (.inl rfl)];exact⟨rfl,rfl⟩
 r7:=fun hm=>by rcases hm with h|h<;>simp[Heap.new]at h
 r8:=fun h=>by simp[Heap.new]at h
theorem l1fresh_a{room:Int}{As:List Asr}(h:1≤room∧room≤4000):FnA Tryz.prog 92 [.int .i64 room] As (fun v As'=>∃a z,v=ptr a∧As'=hp a z++As∧z.H=Heap.new room):=by
 refine fnA_of (fun h=>fn92 (by simp) h) ?_
 repeat' (first
  |(refine k_L ?_;first|refine a_p rfl ?_|(refine a_mk (f:=wv) (n:=16) (k:=16) ⟨0,0,0⟩ wv_len rfl rfl rfl (by omega) (by omega) (fun g hg=>?_))|(refine a_nw rfl rfl (fun b=>?_)))
  |refine a_n ?_
  |(refine k_V ?_;first|refine v_seq ?_|refine v_reg ?_|refine v_ret ?_))
 refine fa_r (As':=hp b (⟨room,0,0,List.replicate 16 ⟨0,0,0⟩,[],0,0,0,[],0,0,0,0,g,⟨none,0⟩,⟨none,0⟩⟩:HX)++As) (fun _ _=>rfl) ?_ ⟨b,_,rfl,rfl,rfl⟩
 refine Ent.trans (ent_new (f:=iv) (size:=1)) ?_
 refine Ent.trans (ent_new (f:=csv) (size:=8)) ?_
 refine Ent.trans (cl_nil (d:=⟨none,0⟩)) ?_
 exact ent_of fun m hm=>star_perm ((List.perm_append_comm (l₁:=[clA ⟨none,0⟩ [],slA 1 iv ⟨none,0⟩ []]) (l₂:=[_,_])).append_right As) hm
section
variable {pb pc ph:Nat} {ca:Option Addr} {cn cc:Nat} {m:Mem} {s1:DW} {B:Int}
theorem begin_d(h1:DOk s1 B)(hp0:s1.x.H.phase=0):FnA Tryz.prog 60 [ptr ph] (dwA pb pc ph ca cn cc m s1) (fun v As=>∃s',DOk s' B∧s'.x.H.phase≠0∧As=dwA pb pc ph ca cn cc m s'):=
 (l3begin_a (a:=ph) (x:=s1.x)).part pmt fun v As' eA=>by
   subst eA
   refine⟨_,Pm.ent pmt,{s1 with x:=s1.x.ph 1 0},⟨?_,h1.t0,h1.tB,h1.lf,h1.al⟩,?_,rfl⟩
   ·show Sound (s1.x.ph 1 0).H
    rw[show(s1.x.ph 1 0).H=s1.x.H.enterH 1 from ph_H rfl]
    exact begin_sound h1.snd hp0
   ·show(1:Int)≠0
    decide
theorem unit_d(h1:DOk s1 B)(hp0:s1.x.H.phase≠0):FnA Tryz.prog 61 [ptr ph] (dwA pb pc ph ca cn cc m s1) (fun v As=>∃s',DOk s' B∧As=dwA pb pc ph ca cn cc m s'):=
 (l3unit_a (a:=ph) (x:=s1.x) h1.snd hp0).part pmt fun v As' ⟨z,eA,hz⟩=>by
   subst eA
   exact⟨_,Pm.ent pmt,{s1 with x:=z},⟨by show Sound z.H;rw[hz];exact unit_sound h1.snd,h1.t0,h1.tB,h1.lf,h1.al⟩,rfl⟩
theorem rooms_a{t s:Int}(hc:Cod m ca cn)(ht:0≤t∧t≤900000000000000):FnA Tryz.prog 57 [ptr pc] [cuA pc ca cn cc t s,ro m] (fun v As=>∃k t' s',v=.int .i64 k∧(1≤k∧k≤4000)∧(t≤t'∧t'≤t+4)∧As=[cuA pc ca cn cc t' s',ro m]):=by
 refine fnA_of (fun h=>fn57 (by simp) h) ?_
 repeat' (first
  |(refine k_L ?_;first|(refine k_ad ?_;refine g_ad rfl rfl ?_)|refine a_p rfl ?_|(refine g_c rfl (pick_a (t:=t) (s:=s) (n:=6) hc (by omega) (by omega)) (fun v As' hq=>?_);obtain⟨k,t1,s1,rfl,hk,ht1,rfl⟩:=hq)|(refine g_c rfl (pick_a (t:=t1) (s:=s1) hc (by omega) (by omega)) (fun v As' hq=>?_);obtain⟨k2,t2,s2,rfl,hk2,ht2,rfl⟩:=hq))
  |refine a_n ?_
  |(refine k_V ?_;first|refine v_seq ?_|refine v_reg ?_|refine v_bs ?_|refine v_ret ?_|refine v_skip ?_|(refine v_cd rfl (fun hb=>?_) (fun hb=>?_)<;>try(exfalso;omega)))
  |refine s_r ?_
  |refine b_r ?_)
 all_goals exact fa_r (fun _ _=>rfl) (Pm.ent pmt) ⟨_,_,_,rfl,by omega,by omega,rfl⟩
theorem l6begin_a{t s room:Int}(hr:1≤room∧room≤4000)(ht:0≤t∧t≤B):FnA Tryz.prog 56 [ptr pc,.int .i64 room] [cuA pc ca cn cc t s,ro m] (fun v As=>∃pb ph s',v=ptr pb∧DOk s' B∧As=dwA pb pc ph ca cn cc m s'):=by
 refine fnA_of (fun h=>fn56 (by simp) h) ?_
 repeat' (first
  |(refine k_L ?_;first|refine a_p rfl ?_|(refine g_c rfl (l1fresh_a (As:=[]) hr) (fun v As' hq=>?_);obtain⟨ph,z,rfl,rfl,hz⟩:=hq)|(refine a_nw rfl rfl (fun pb=>?_)))
  |refine a_n ?_
  |(refine k_V ?_;first|refine v_seq ?_|refine v_reg ?_|refine v_ret ?_))
 refine fa_r (As':=dwA pb pc ph ca cn cc m ⟨t,s,z,⟨none,0⟩,[],400⟩) (fun _ _=>rfl) ?_ ⟨pb,ph,_,rfl,⟨by show Sound z.H;rw[hz];exact new_heap_sound hr,ht.1,ht.2,by show(0:Int)≤400;omega,by simp⟩,rfl⟩
 refine Ent.trans (ent_new (f:=av) (size:=5)) ?_
 exact Pm.ent pmt
end
section
variable {pb pc ph:Nat} {ca:Option Addr} {cn cc:Nat} {m:Mem} {s1:DW} {B:Int}
theorem heap_a{t s:Int}(hc:Cod m ca cn)(ht:0≤t∧t≤100000000000000):FnA Tryz.prog 24 [ptr pc] [cuA pc ca cn cc t s,ro m] (fun v As=>∃pb ph s',v=ptr ph∧DOk s' (t+6000)∧As=dwA pb pc ph ca cn cc m s'):=by
 refine fnA_of (fun h=>fn24 (by simp) h) ?_
 refine v_seq (v_reg ?_)
 repeat' (first
  |(refine k_L ?_;refine a_p rfl ?_)
  |refine a_n ?_
  |refine s_n ?_)
 refine v_seq (v_reg ?_)
 repeat' (first
  |(refine k_L ?_;first|refine a_p rfl ?_|(refine g_c rfl (rooms_a (t:=t) (s:=s) hc (by omega)) (fun v As' hq=>?_);obtain⟨rm,t1,s1,rfl,hrm,ht1,rfl⟩:=hq)|(refine g_c rfl (l6begin_a (t:=t1) (s:=s1) (B:=t+4) hrm (by omega)) (fun v As' hq=>?_);obtain⟨pb,ph,s1,rfl,h1,rfl⟩:=hq))
  |refine a_n ?_
  |refine s_n ?_)
 refine v_seq (v_reg ?_)
 repeat' (first
  |(refine k_L ?_;first|refine a_p rfl ?_|(refine g_c rfl (pick_d h1 hc (by omega) (by omega)) (fun v As' hq=>?_);obtain⟨f,s1,rfl,hf,h1,rfl⟩:=hq))
  |refine a_n ?_
  |refine s_n ?_)
 repeat' (first
  |(refine k_L ?_;first|(refine k_ad ?_;refine g_ad rfl rfl ?_)|refine a_p rfl ?_|(refine g_c rfl (pick_d h1 hc (by omega) (by omega)) (fun v As' hq=>?_);obtain⟨k,s1,rfl,hk,h1,rfl⟩:=hq))
  |refine a_n ?_
  |(refine k_V ?_;first|refine v_seq ?_|refine v_reg ?_)
  |refine s_n ?_)
 --some acts
 refine v_via (fun S As=>∃s,DOk s (t+4900)∧leA [(0,SV.v (ptr pc)),(3,SV.v (ptr pb)),(4,SV.v (.int .i64 f))] S∧Ent As (dwA pb pc ph ca cn cc m s)) ?_ ?_
 ·refine v_blk ?_
  refine v_loop (fun q:Int×DW=>[(0,SV.v (ptr pc)),(3,SV.v (ptr pb)),(4,SV.v (.int .i64 f)),(5,SV.v (.int .i64 q.1))]) (fun q=>dwA pb pc ph ca cn cc m q.2) (fun k q=>(k:Int)=q.1∧(0≤q.1∧q.1≤8)∧DOk q.2 (t+4900-600*q.1)) ⟨(1+k).toNat,(1+k,s1),⟨rfl,rfl,rfl,rfl,trivial⟩,Pm.ent pmt,show(((1+k).toNat:Nat):Int)=1+k by omega,by show 0≤1+k∧1+k≤8;omega,h1.up (by show _≤t+4900-600*(1+k);omega)⟩ ?_
  rintro k ⟨i,s1⟩ ⟨hk0,hi,h1⟩
  dsimp only at hk0 hi h1⊢
  by_cases hin:i>0
  ·repeat' (first
    |(refine k_L ?_;first|(refine k_su ?_;refine g_su rfl rfl ?_)|refine a_p rfl ?_|(refine g_c rfl (some_d h1 hc (by omega)) (fun v As' hq=>?_);obtain⟨s1,h1,rfl⟩:=hq))
    |refine a_n ?_
    |(refine k_V ?_;first|refine v_seq ?_|refine v_reg ?_|refine v_br ?_|refine v_skip ?_|(refine v_cd rfl (fun hb=>?_) (fun hb=>?_)<;>try(exfalso;omega)))
    |refine s_n ?_)
   all_goals exact⟨(i-1).toNat,(i-1,s1),by omega,⟨rfl,rfl,rfl,rfl,trivial⟩,Pm.ent pmt,by show(((i-1).toNat:Nat):Int)=i-1;omega,⟨by show 0≤i-1;omega,by show i-1≤8;omega⟩,h1.up (by show _≤t+4900-600*(i-1);omega)⟩
  ·repeat' (first
    |(refine k_L ?_;refine a_p rfl ?_)
    |refine a_n ?_
    |(refine k_V ?_;first|refine v_seq ?_|refine v_reg ?_|refine v_exit ?_|(refine v_cd rfl (fun hb=>?_) (fun hb=>?_)<;>try(exfalso;omega)))
    |refine s_n ?_
    |refine s_e ?_
    |refine b_e ?_)
   exact⟨s1,h1.up (by omega),⟨rfl,rfl,rfl,trivial⟩,Pm.ent pmt⟩
 rintro S As ⟨s1,h1,hS,hE⟩
 refine VA.ent hE (v_weak _ hS ?_)
 clear hS hE S As
 refine v_seq (v_via (fun S As=>∃s,DOk s (t+4910)∧leA [(0,SV.v (ptr pc)),(3,SV.v (ptr pb)),(4,SV.v (.int .i64 f))] S∧Ent As (dwA pb pc ph ca cn cc m s)) ?_ ?_)
 ·repeat' (first
   |(refine k_L ?_;first|refine a_p rfl ?_|(refine k_l ?_;refine g_l rfl ?_)|(refine g_c rfl (pick_d h1 hc (by omega) (by omega)) (fun v As' hq=>?_);obtain⟨k,s1,rfl,hk,h1,rfl⟩:=hq))
   |refine a_n ?_
   |(refine k_V ?_;first|refine v_seq ?_|refine v_reg ?_|refine v_ret ?_|refine v_skip ?_|(refine v_cd rfl (fun hb=>?_) (fun hb=>?_)<;>try(exfalso;omega)))
   |refine s_n ?_
   |refine s_r ?_)
  ·exact fa_r (fun _ _=>rfl) (Pm.ent pmt) ⟨pb,ph,s1,rfl,h1.up (by omega),rfl⟩
  ·exact⟨s1,h1.up (by omega),⟨rfl,rfl,rfl,trivial⟩,Pm.ent pmt⟩
 rintro S As ⟨s1,h1,hS,hE⟩
 refine VA.ent hE (v_weak _ hS ?_)
 clear hS hE S As
 refine v_seq (v_via (fun S As=>∃s,DOk s (t+4910)∧leA [(0,SV.v (ptr pc)),(3,SV.v (ptr pb)),(4,SV.v (.int .i64 f))] S∧Ent As (dwA pb pc ph ca cn cc m s)) ?_ ?_)
 ·repeat' (first
   |(refine k_L ?_;first|refine a_p rfl ?_|(refine k_l ?_;refine g_l rfl ?_)|(refine g_c rfl (begin_d h1 hb) (fun v As' hq=>?_);obtain⟨s1,h1,hph,rfl⟩:=hq))
   |refine a_n ?_
   |(refine k_V ?_;first|refine v_seq ?_|refine v_reg ?_|refine v_skip ?_|(refine v_cd rfl (fun hb=>?_) (fun hb=>?_)<;>try(exfalso;omega)))
   |refine s_n ?_)
  all_goals exact⟨s1,h1.up (by omega),⟨rfl,rfl,rfl,trivial⟩,Pm.ent pmt⟩
 rintro S As ⟨s1,h1,hS,hE⟩
 refine VA.ent hE (v_weak _ hS ?_)
 clear hS hE S As
 refine v_seq (v_via (fun S As=>∃s,DOk s (t+4910)∧leA [(0,SV.v (ptr pc)),(3,SV.v (ptr pb)),(4,SV.v (.int .i64 f))] S∧Ent As (dwA pb pc ph ca cn cc m s)) ?_ ?_)
 ·refine v_seq (v_reg ?_)
  repeat' (first
   |(refine k_L ?_;refine a_p rfl ?_)
   |refine a_n ?_
   |refine s_n ?_)
  refine v_blk ?_
  refine v_loop (fun q:Int×DW=>[(0,SV.v (ptr pc)),(3,SV.v (ptr pb)),(4,SV.v (.int .i64 f)),(6,SV.v (.int .i64 q.1))]) (fun q=>dwA pb pc ph ca cn cc m q.2) (fun k q=>(k:Int)=20000-q.1∧(0≤q.1∧q.1≤20000)∧DOk q.2 (t+4910)) ⟨20000,(0,s1),⟨rfl,rfl,rfl,rfl,trivial⟩,Pm.ent pmt,by show((20000:Nat):Int)=20000-0;omega,by show(0:Int)≤0∧(0:Int)≤20000;omega,h1.up (by omega)⟩ ?_
  rintro k ⟨i,s1⟩ ⟨hk0,hi,h1⟩
  dsimp only at hk0 hi h1⊢
  repeat' (first
   |(refine k_L ?_;first|(refine k_ad ?_;refine g_ad rfl rfl ?_)|refine a_p rfl ?_|(refine k_g ?_;first|refine a_gy rfl rfl ?_|refine a_gn rfl rfl ?_|(refine a_gd rfl (fun hb=>?_) (fun hb=>?_)<;>try(exfalso;omega))|(refine a_gne rfl (fun hb=>?_) (fun hb=>?_)<;>try(exfalso;omega)))|(refine k_l ?_;refine g_l rfl ?_)|(refine g_c rfl (begin_d h1 hb) (fun v As' hq=>?_);obtain⟨s1,h1,hph,rfl⟩:=hq)|(refine g_c rfl (unit_d h1 hph) (fun v As' hq=>?_);obtain⟨s1,h1,rfl⟩:=hq)|(refine g_c rfl (unit_d h1 hb) (fun v As' hq=>?_);obtain⟨s1,h1,rfl⟩:=hq))
   |refine a_n ?_
   |(refine k_V ?_;first|refine v_seq ?_|refine v_reg ?_|refine v_bs ?_|refine v_exit ?_|refine v_skip ?_|refine v_cf rfl ?_|(refine v_cd rfl (fun hb=>?_) (fun hb=>?_)<;>try(exfalso;omega)))
   |refine s_n ?_
   |refine s_e ?_
   |refine b_e ?_)
  all_goals first
   |exact⟨s1,h1.up (by omega),⟨rfl,rfl,rfl,trivial⟩,Pm.ent pmt⟩
   |exact⟨(20000-(i+1)).toNat,(i+1,s1),by omega,⟨rfl,rfl,rfl,rfl,trivial⟩,Pm.ent pmt,by show(((20000-(i+1)).toNat:Nat):Int)=20000-(i+1);omega,⟨by show 0≤i+1;omega,by show i+1≤20000;omega⟩,h1⟩
 rintro S As ⟨s1,h1,hS,hE⟩
 refine VA.ent hE (v_weak _ hS ?_)
 clear hS hE S As
 repeat' (first
  |(refine k_L ?_;first|refine a_p rfl ?_|(refine g_c rfl (pick_d h1 hc (by omega) (by omega)) (fun v As' hq=>?_);obtain⟨k,s1,rfl,hk,h1,rfl⟩:=hq))
  |refine a_n ?_
  |(refine k_V ?_;first|refine v_seq ?_|refine v_reg ?_)
  |refine s_n ?_)
 refine v_blk ?_
 refine v_loop (fun q:Int×DW=>[(0,SV.v (ptr pc)),(3,SV.v (ptr pb)),(7,SV.v (.int .i64 q.1))]) (fun q=>dwA pb pc ph ca cn cc m q.2) (fun k q=>(k:Int)=q.1∧(0≤q.1∧q.1≤6)∧DOk q.2 (t+5200-30*q.1)) ⟨k.toNat,(k,s1),⟨rfl,rfl,rfl,trivial⟩,Pm.ent pmt,show((k.toNat:Nat):Int)=k by omega,by show 0≤k∧k≤6;omega,h1.up (by show _≤t+5200-30*k;omega)⟩ ?_
 rintro k ⟨i,s1⟩ ⟨hk0,hi,h1⟩
 dsimp only at hk0 hi h1⊢
 by_cases hin:i>0
 ·repeat' (first
   |(refine k_L ?_;first|(refine k_su ?_;refine g_su rfl rfl ?_)|refine a_p rfl ?_|(refine k_l ?_;refine g_l rfl ?_)|(refine g_c rfl (pick_d h1 hc (by omega) (by omega)) (fun v As' hq=>?_);obtain⟨k,s1,rfl,hk,h1,rfl⟩:=hq)|(refine g_c rfl (act_d h1 hc (by omega)) (fun v As' hq=>?_);obtain⟨s1,h1,rfl⟩:=hq)|(refine g_c rfl (unit_d h1 hb) (fun v As' hq=>?_);obtain⟨s1,h1,rfl⟩:=hq))
   |refine a_n ?_
   |(refine k_V ?_;first|refine v_seq ?_|refine v_reg ?_|refine v_bs ?_|refine v_skip ?_|(refine v_cd rfl (fun hb=>?_) (fun hb=>?_)<;>try(exfalso;omega))|(refine v_cn rfl (fun hb=>?_) (fun hb=>?_)<;>try(exfalso;omega)))
   |refine s_n ?_)
  all_goals exact⟨(i-1).toNat,(i-1,s1),by omega,⟨rfl,rfl,rfl,trivial⟩,Pm.ent pmt,by show(((i-1).toNat:Nat):Int)=i-1;omega,⟨by show 0≤i-1;omega,by show i-1≤6;omega⟩,h1.up (by show _≤t+5200-30*(i-1);omega)⟩
 ·repeat' (first
   |(refine k_L ?_;first|refine a_p rfl ?_|(refine k_l ?_;refine g_l rfl ?_))
   |refine a_n ?_
   |(refine k_V ?_;first|refine v_seq ?_|refine v_reg ?_|refine v_ret ?_|refine v_exit ?_|(refine v_cd rfl (fun hb=>?_) (fun hb=>?_)<;>try(exfalso;omega))))
  exact fa_r (fun _ _=>rfl) (Pm.ent pmt) ⟨pb,ph,s1,rfl,h1.up (by omega),rfl⟩
end
end Go.Proofs.YtcjmodomfilagaaGreat.E
namespace Go.Proofs.YtcjmodomfilagaaGreat.E
open Go
noncomputable def e16:Env:=⟨Tryz.prog,[],16,[]⟩
abbrev qE(a0:Nat)(a1:Nat)(a2:Nat)(a3:Nat):I:=⟨some a0,some (a1,false),.bin .neq (.tmp a2) (.tmp a3)⟩
noncomputable def c16:C:=
 .seq (.reg [zC 4 0]) (.seq (.seq (.reg [z3 5 0,zI 6 5,z7 7 6 0]) (.cond (.tmp 7) (.seq (.reg [zC 4 0]) .ret) .skip)) (.seq (.reg [z3 8 0,z3 9 1,z3 10 0,zI 11 10,⟨some 12,none,.bin .rem (.tmp 9) (.tmp 11)⟩,z9 13 1 8 12,z5 14 1 13,jF 15 14,z3 4 15]) .ret))
theorem t16:Tryz.f16.body.bind (trC e16)=some c16:=by kernel_rfl
theorem r16:Tryz.f16.results.toList.mapM (trR Tryz.prog)=some [.tmp 4]:=by kernel_rfl
theorem fn16{args:List Value}{M:Mem}{post:Value→Mem→Prop}(hl:args.length≤16)(h:VC e16 c16 (fnQ [.tmp 4] post) (initS args 16) M):Fn Tryz.prog 16 args M post:=
 Fn.of' (E:=e16) Tryz.func16 t16 rfl r16 mixed hl h
noncomputable def e34:Env:=⟨Tryz.prog,[],26,[(6,9)]⟩
noncomputable def c34:C:=
 .seq (.reg [zJ 4]) (.seq (.seq (.reg [z3 6 0,zI 7 6,z3 8 1,zI 9 8,qB 10 7 9]) (.cond (.tmp 10) (.seq (.reg [zJ 4]) .ret) .skip)) (.seq (.seq (.reg [z3 11 0,zI 12 11,zC 13 0]) (.block 0 (.loop (.seq (.reg [zQ 14 13 12]) (.seq (.cond (.tmp 14) .skip (.exit 0)) (.seq (.block 1 (.seq (.reg [z3 15 13,z3 5 15]) (.seq (.dreg 9 [z3 16 0,z3 17 5,z9 18 6 16 17,zA 19 6 18,z3 20 1,z3 21 5,z9 22 6 20
 21,zA 23 6 22,⟨some 24,none,.eqA true 6 (.tmp 19) (.tmp 23)⟩]) (.cond (.tmp 24) (.seq (.reg [zJ 4]) .ret) .skip)))) (.reg [zP 25 13 1,z3 13 25]))))))) (.seq (.reg [za 4]) .ret)))
theorem t34:Tryz.f34.body.bind (trC e34)=some c34:=by kernel_rfl
theorem r34:Tryz.f34.results.toList.mapM (trR Tryz.prog)=some [.tmp 4]:=by kernel_rfl
theorem fn34{args:List Value}{M:Mem}{post:Value→Mem→Prop}(hl:args.length≤26)(h:VC e34 c34 (fnQ [.tmp 4] post) (initS args 26) M):Fn Tryz.prog 34 args M post:=
 Fn.of' (E:=e34) Tryz.func34 t34 rfl r34 mixed hl h
noncomputable def e33:Env:=⟨Tryz.prog,[],26,[(6,9)]⟩
noncomputable def c33:C:=
 .seq (.reg [zJ 4]) (.seq (.seq (.reg [z3 6 0,zI 7 6,z3 8 1,zI 9 8,qB 10 7 9]) (.cond (.tmp 10) (.seq (.reg [zJ 4]) .ret) .skip)) (.seq (.seq (.reg [z3 11 0,zI 12 11,zC 13 0]) (.block 0 (.loop (.seq (.reg [zQ 14 13 12]) (.seq (.cond (.tmp 14) .skip (.exit 0)) (.seq (.block 1 (.seq (.reg [z3 15 13,z3 5 15]) (.seq (.dreg 9 [z3 16 0,z3 17 5,z9 18 3 16 17,zA 19 3 18,z3 20 1,z3 21 5,z9 22 3 20
 21,zA 23 3 22,⟨some 24,none,.eqA true 3 (.tmp 19) (.tmp 23)⟩]) (.cond (.tmp 24) (.seq (.reg [zJ 4]) .ret) .skip)))) (.reg [zP 25 13 1,z3 13 25]))))))) (.seq (.reg [za 4]) .ret)))
theorem t33:Tryz.f33.body.bind (trC e33)=some c33:=by kernel_rfl
theorem r33:Tryz.f33.results.toList.mapM (trR Tryz.prog)=some [.tmp 4]:=by kernel_rfl
theorem fn33{args:List Value}{M:Mem}{post:Value→Mem→Prop}(hl:args.length≤26)(h:VC e33 c33 (fnQ [.tmp 4] post) (initS args 26) M):Fn Tryz.prog 33 args M post:=
 Fn.of' (E:=e33) Tryz.func33 t33 rfl r33 mixed hl h
noncomputable def e35:Env:=⟨Tryz.prog,[],26,[(6,9)]⟩
noncomputable def c35:C:=
 .seq (.reg [zJ 4]) (.seq (.seq (.reg [z3 6 0,zI 7 6,z3 8 1,zI 9 8,qB 10 7 9]) (.cond (.tmp 10) (.seq (.reg [zJ 4]) .ret) .skip)) (.seq (.seq (.reg [z3 11 0,zI 12 11,zC 13 0]) (.block 0 (.loop (.seq (.reg [zQ 14 13 12]) (.seq (.cond (.tmp 14) .skip (.exit 0)) (.seq (.block 1 (.seq (.reg [z3 15 13,z3 5 15]) (.seq (.dreg 9 [z3 16 0,z3 17 5,z9 18 1 16 17,z5 19 1 18,z3 20 1,z3 21 5,z9 22 1 20
 21,z5 23 1 22,qB 24 19 23]) (.cond (.tmp 24) (.seq (.reg [zJ 4]) .ret) .skip)))) (.reg [zP 25 13 1,z3 13 25]))))))) (.seq (.reg [za 4]) .ret)))
theorem t35:Tryz.f35.body.bind (trC e35)=some c35:=by kernel_rfl
theorem r35:Tryz.f35.results.toList.mapM (trR Tryz.prog)=some [.tmp 4]:=by kernel_rfl
theorem fn35{args:List Value}{M:Mem}{post:Value→Mem→Prop}(hl:args.length≤26)(h:VC e35 c35 (fnQ [.tmp 4] post) (initS args 26) M):Fn Tryz.prog 35 args M post:=
 Fn.of' (E:=e35) Tryz.func35 t35 rfl r35 mixed hl h
noncomputable def e11:Env:=⟨Tryz.prog,[2,3,6,7],170,[]⟩
noncomputable def c11:C:=
 .seq (.reg [zY 2 0,zY 3 1,zJ 4]) (.seq (.seq (.reg [z4 8 0 2,z5 9 1 8,z4 10 0 3,z5 11 1 10,qB 12 9 11,z3 13 12,zG 14 13 1 2,zK 15 13 1 14,zG 16 13 1 3,zK 17 13 1 16,qE 18 13 15 17,zO 19 13 18,z3 20 19,zG 21 20 2 2,zK 22 20 1 21,zG 23 20 2 3,zK 24 20 1 23,qE 25 20 22 24,zO 26 20 25,z3 27 26,zG 28 27 3 2,zK 29 27 1 28,zG 30 27 3 3,zK 31 27 1 30,qH 32 27 33 29 31,zf 33 27 32,zO 34 27 33,z3 35 34,
 zG 36 35 4 2,zK 37 35 1 36,qA 38 35 37,zG 39 35 4 3,zK 40 35 1 39,qA 41 35 40,qE 42 35 38 41,zO 43 35 42]) (.cond (.tmp 43) (.seq (.reg [zJ 4]) .ret) .skip)) (.seq (.seq (.reg [z4 44 4 2,z5 45 1 44,zI 46 45,zC 47 0]) (.block 0 (.loop (.seq (.reg [zQ 48 47 46]) (.seq (.cond (.tmp 48) .skip (.exit 0)) (.seq (.block 1 (.seq (.reg [z3 49 47,z3 5 49]) (.seq (.reg [z4 50 4 2,z5 51 1 50,z3 52 5,z9
 53 8 51 52,zA 54 8 53,zX 6 0 0 0 0 0 0 0 0 0,z8 8 6 54]) (.seq (.reg [z4 55 4 3,z5 56 1 55,z3 57 5,z9 58 8 56 57,zA 59 8 58,zX 7 0 0 0 0 0 0 0 0 0,z8 8 7 59]) (.seq (.reg [z4 60 0 6,z5 61 1 60,z4 62 0 7,z5 63 1 62,qB 64 61 63,z3 65 64,zG 66 65 1 6,zK 67 65 1 66,zG 68 65 1 7,zK 69 65 1 68,qE 70 65 67 69,zO 71 65 70,z3 72 71,zG 73 72 2 6,zK 74 72 1 73,zG 75 72 2 7,zK 76 72 1 75,qE 77 72 74 76,zO
 78 72 77,z3 79 78,zG 80 79 3 6,zK 81 79 1 80,zG 82 79 3 7,zK 83 79 1 82,qE 84 79 81 83,zO 85 79 84,z3 86 85,zG 87 86 4 6,zK 88 86 1 87,zG 89 86 4 7,zK 90 86 1 89,qE 91 86 88 90,zO 92 86 91,z3 93 92,zG 94 93 5 6,zK 95 93 1 94,zG 96 93 5 7,zK 97 93 1 96,qE 98 93 95 97,zO 99 93 98,z3 100 99,zG 101 100 6 6,zK 102 100 1 101,zG 103 100 6 7,zK 104 100 1 103,qE 105 100 102 104,zO 106 100 105,z3 107 106,
 zG 108 107 7 6,zK 109 107 1 108,zG 110 107 7 7,zK 111 107 1 110,qH 112 107 34 109 111,zf 113 107 112,zO 114 107 113]) (.cond (.tmp 114) (.seq (.reg [zJ 4]) .ret) .skip)))))) (.reg [zP 115 47 1,z3 47 115]))))))) (.seq (.reg [z4 116 5 2,z5 117 1 116,z4 118 5 3,z5 119 1 118,zz 120 117 119,z3 121 120,zE 122 121 6 2,zD 123 121 1 122,zE 124 121 6 3,zD 125 121 1 124,q8 126 121 123 125,zL 127 121 126,
 z3 128 127,zE 129 128 7 2,zD 130 128 1 129,zE 131 128 7 3,zD 132 128 1 131,q8 133 128 130 132,zL 134 128 133,z3 135 134,zE 136 135 8 2,zD 137 135 1 136,zE 138 135 8 3,zD 139 135 1 138,qn 140 135 35 137 139,zL 141 135 140,z3 142 141,zE 143 142 9 2,zD 144 142 1 143,zE 145 142 9 3,zD 146 142 1 145,q8 147 142 144 146,zL 148 142 147,z3 149 148,zE 150 149 10 2,zD 151 149 1 150,zE 152 149 10 3,zD 153
 149 1 152,q8 154 149 151 153,zL 155 149 154,z3 156 155,zE 157 156 11 2,zD 158 156 1 157,zE 159 156 11 3,zD 160 156 1 159,q8 161 156 158 160,zL 162 156 161,z3 163 162,zE 164 163 12 2,zD 165 163 1 164,zE 166 163 12 3,zD 167 163 1 166,q8 168 163 165 167,zL 169 163 168,z3 4 169]) .ret)))
theorem t11:Tryz.f11.body.bind (trC e11)=some c11:=by kernel_rfl
theorem r11:Tryz.f11.results.toList.mapM (trR Tryz.prog)=some [.tmp 4]:=by kernel_rfl
theorem fn11{args:List Value}{M:Mem}{post:Value→Mem→Prop}(hl:args.length≤170)(h:VC e11 c11 (fnQ [.tmp 4] post) (initS args 170) M):Fn Tryz.prog 11 args M post:=
 Fn.of' (E:=e11) Tryz.func11 t11 rfl r11 mixed hl h
noncomputable def e3:Env:=⟨Tryz.prog,[3,7,8],129,[(18,23)]⟩
theorem r3:Tryz.f3.results.toList.mapM (trR Tryz.prog)=some [.tmp 2]:=by kernel_rfl
noncomputable def e4:Env:=⟨Tryz.prog,[5,8,9,10,11],137,[]⟩
noncomputable def c4:C:=
 .seq (.reg [zJ 4]) (.seq (.seq (.reg [z3 13 0,zI 14 13,q0 15 14 1048576,z3 16 15,zN 17 16 1,qA 18 16 17,qT 19 16 18 1048576,zO 20 16 19]) (.cond (.tmp 20) (.seq (.reg [za 4]) .ret) .skip)) (.seq (.reg [z3 21 0,zM 22 6 21,⟨some 5,none,.alloc true [.int .i64 0,.int .i64 0,.int .i64 0,.slice none 0 0,.slice none 0 0,.int .i64 0,.int .i64 0,.int .i64 0,.slice none 0 0,.int .i64 0,.int .i64 0,.int
 .i64 0,.int .i64 0]⟩,z8 13 5 22]) (.seq (.reg [z3 23 1,zR 24 16 23 0,z3 6 24]) (.seq (.reg [z3 25 1,zR 26 16 25 1,z3 7 26]) (.seq (.reg [zA 27 13 5,z3 28 6,zU 29 17 27 28,qd 8 0 0 0 0 0 0 0 0 0 0 0 0 0 0 0 0 0,z8 14 8 29]) (.seq (.reg [zA 30 13 5,z3 31 6,zU 32 18 30 31,qd 9 0 0 0 0 0 0 0 0 0 0 0 0 0 0 0 0 0,z8 14 9 32]) (.seq (.seq (.reg [z4 33 13 8,z5 34 1 33,z4 35 13 9,z5 36 1 35,qB 37 34
 36,z3 38 37,zG 39 38 0 8,qC 40 38 13 39,zG 41 38 0 9,qC 42 38 13 41,qH 43 38 11 40 42,zf 44 38 43,zO 45 38 44,z3 46 45,zG 47 46 13 8,zK 48 46 1 47,zN 49 46 6,qr 50 46 48 49,zO 51 46 50,z3 52 51,zG 53 52 13 8,zK 54 52 1 53,zN 55 52 6,qZ 56 52 54 55,zN 57 52 56,zE 58 57 0 8,zE 59 57 5 58,zD 60 57 1 59,q4 61 57 60 0,q9 62 52 57 61,zO 63 52 62]) (.cond (.tmp 63) (.seq (.reg [zJ 4]) .ret) .skip))
 (.seq (.seq (.reg [z4 64 13 8,z5 65 1 64,z3 66 6,zz 67 65 66,z3 68 67,zE 69 68 0 8,zE 70 68 5 69,zD 71 68 1 70,q4 72 68 71 0,zL 73 68 72]) (.cond (.tmp 73) (.seq (.reg [z4 74 0 8,zA 75 13 74,z3 76 7,zU 77 17 75 76,qd 10 0 0 0 0 0 0 0 0 0 0 0 0 0 0 0 0 0,z8 14 10 77]) (.seq (.reg [zA 78 13 5,z3 79 6,z3 80 7,q6 81 79 80,zU 82 17 78 81,qd 11 0 0 0 0 0 0 0 0 0 0 0 0 0 0 0 0 0,z8 14 11 82]) (.seq
 (.reg [z4 83 0 10,zA 84 13 83,z4 85 0 11,zA 86 13 85,zU 87 11 84 86,zW 88 87,z3 89 88,zG 90 89 13 11,zK 91 89 1 90,zN 92 89 6,zG 93 89 13 10,zK 94 89 1 93,⟨some 95,some (89,false),.bin .add (.tmp 92) (.tmp 94)⟩,qE 96 89 91 95,zO 97 89 96]) (.cond (.tmp 97) (.seq (.reg [zJ 4]) .ret) .skip)))) .skip)) (.seq (.reg [zA 98 13 5,zM 99 19 98,z3 12 99]) (.seq (.seq (.reg [z3 100 12,zA 101 13 5,zM 102
 20 101,qB 103 100 102,z3 104 103,zN 105 104 12,zx 106 104 105 0,zG 107 104 5 5,zK 108 104 1 107,zx 109 104 108 0,⟨some 110,some (104,false),.eqB true (.tmp 106) (.tmp 109)⟩,zO 111 104 110]) (.cond (.tmp 111) (.seq (.reg [zJ 4]) .ret) .skip)) (.seq (.seq (.reg [z3 112 12,z7 113 112 0,z3 114 113,zN 115 114 12,qT 116 114 115 100000,zO 117 114 116]) (.cond (.tmp 117) (.seq (.reg [za 4]) .ret)
 .skip)) (.seq (.reg [zA 118 13 5,z3 119 12,zU 120 17 118 119,⟨some 121,none,.field false 0 13 (.tmp 120)⟩,⟨some 122,none,.field true 5 1 (.tmp 121)⟩,z7 123 122 0,z3 124 123,zF 125 124 12,zV 126 124 125 1,zF 127 124 126,qC 128 127 13 5,zN 129 127 12,⟨some 130,some (127,false),.bin .sub (.tmp 129) (.const (.int .i64 1))⟩,qH 131 127 17 128 130,⟨some 132,some (127,false),.field false 0 13 (.tmp
 131)⟩,⟨some 133,some (127,false),.field true 5 1 (.tmp 132)⟩,zy 134 127 133 0,qF 135 124 127 134,zL 136 124 135,z3 4 136]) .ret))))))))))))
theorem t4:Tryz.f4.body.bind (trC e4)=some c4:=by kernel_rfl
theorem r4:Tryz.f4.results.toList.mapM (trR Tryz.prog)=some [.tmp 4]:=by kernel_rfl
theorem fn4{args:List Value}{M:Mem}{post:Value→Mem→Prop}(hl:args.length≤137)(h:VC e4 c4 (fnQ [.tmp 4] post) (initS args 137) M):Fn Tryz.prog 4 args M post:=
 Fn.of' (E:=e4) Tryz.func4 t4 rfl r4 mixed hl h
end Go.Proofs.YtcjmodomfilagaaGreat.E
namespace Go.Proofs.YtcjmodomfilagaaGreat.E
open Go
open Classical
theorem wWords_t{m:Mem}{d e:D}{xs:List Word}(hx:Has m [slA 3 wv d xs])(hy:Has m [slA 3 wv e xs]):Qt Tryz.prog 33 [.slice d.a xs.length d.cap,.slice e.a xs.length e.cap] m (.bool true):=by
 have hbd:xs.length≤140737488355328:=by obtain⟨a,l,s⟩:=hx;exact(kn_h bd_sl).out a s
 refine qt_of (fnA_of (fun h=>fn33 (by simp) h) ?_)
 repeat' (first
  |(refine k_L ?_;refine a_p rfl ?_)
  |refine a_n ?_
  |(refine k_V ?_;first|refine v_seq ?_|refine v_reg ?_|refine v_skip ?_|(refine v_cn rfl (fun hb=>?_) (fun hb=>?_)<;>try(exfalso;omega)))
  |refine s_n ?_)
 refine g_range xs.length (fun _:Unit=>[(0,.v (.slice d.a xs.length d.cap)),(1,.v (.slice e.a xs.length e.cap))]) (fun _=>[ro m]) (fun _ _=>True) () trivial (fun i _ hi _=>?_) (fun _ _=>?_)
 ·obtain⟨w,gw⟩:∃w,xs[i]?=some w:=⟨_,List.getElem?_eq_getElem hi⟩
  repeat' (first
   |(refine k_L ?_;first|refine a_p rfl ?_|(refine k_i ?_;refine g_i rfl rfl ?_)|(refine k_ls ?_;refine g_ls rfl ?_)|(refine a_i (e:=d) rfl rfl (kn_h (kn_ro hx (kn_h (bs_sl gw)))) (by omega) ?_)|(refine a_ls rfl (rs_h (rs_ro hx (rs_h (rs_sl (fun _=>rfl) gw)))) ?_))
   |refine a_n ?_
   |(refine k_V ?_;first|refine v_rv ?_|refine v_seq ?_|refine v_reg ?_|refine v_dreg ?_|refine v_skip ?_|(refine v_cond _ rfl (fun hb=>?_) (fun hb=>?_)))
   |refine s_r ?_
   |refine r_rt ?_)
  all_goals first
   |exact r_nx () trivial
   |(exfalso;simp at hb;done)
 ·repeat' (first
   |refine a_n ?_
   |(refine k_V ?_;refine v_rv ?_))
  exact fa_q (by simp) (fun _ _=>rfl) rfl
theorem wPairs_t{m:Mem}{d e:D}{xs:List Pair}(hx:Has m [slA 6 pv d xs])(hy:Has m [slA 6 pv e xs]):Qt Tryz.prog 34 [.slice d.a xs.length d.cap,.slice e.a xs.length e.cap] m (.bool true):=by
 have hbd:xs.length≤140737488355328:=by obtain⟨a,l,s⟩:=hx;exact(kn_h bd_sl).out a s
 refine qt_of (fnA_of (fun h=>fn34 (by simp) h) ?_)
 repeat' (first
  |(refine k_L ?_;refine a_p rfl ?_)
  |refine a_n ?_
  |(refine k_V ?_;first|refine v_seq ?_|refine v_reg ?_|refine v_skip ?_|(refine v_cn rfl (fun hb=>?_) (fun hb=>?_)<;>try(exfalso;omega)))
  |refine s_n ?_)
 refine g_range xs.length (fun _:Unit=>[(0,.v (.slice d.a xs.length d.cap)),(1,.v (.slice e.a xs.length e.cap))]) (fun _=>[ro m]) (fun _ _=>True) () trivial (fun i _ hi _=>?_) (fun _ _=>?_)
 ·obtain⟨w,gw⟩:∃w,xs[i]?=some w:=⟨_,List.getElem?_eq_getElem hi⟩
  repeat' (first
   |(refine k_L ?_;first|refine a_p rfl ?_|(refine k_i ?_;refine g_i rfl rfl ?_)|(refine a_i (e:=d) rfl rfl (kn_h (kn_ro hx (kn_h (bs_sl gw)))) (by omega) ?_)|(refine a_ls rfl (rs_h (rs_ro hx (rs_h (rs_sl (fun _=>rfl) gw)))) ?_)|(refine a_ls rfl (rs_h (rs_ro hy (rs_h (rs_sl (fun _=>rfl) gw)))) ?_))
   |refine a_n ?_
   |(refine k_V ?_;first|refine v_rv ?_|refine v_seq ?_|refine v_reg ?_|refine v_dreg ?_|refine v_skip ?_|(refine v_cond _ rfl (fun hb=>?_) (fun hb=>?_)))
   |refine s_r ?_
   |refine r_rt ?_)
  all_goals first
   |exact r_nx () trivial
   |(exfalso;simp at hb;done)
 ·repeat' (first
   |refine a_n ?_
   |(refine k_V ?_;refine v_rv ?_))
  exact fa_q (by simp) (fun _ _=>rfl) rfl
theorem wInts_t{m:Mem}{d e:D}{xs:List Int}(hx:Has m [slA 1 iv d xs])(hy:Has m [slA 1 iv e xs]):Qt Tryz.prog 35 [.slice d.a xs.length d.cap,.slice e.a xs.length e.cap] m (.bool true):=by
 have hbd:xs.length≤140737488355328:=by obtain⟨a,l,s⟩:=hx;exact(kn_h bd_sl).out a s
 refine qt_of (fnA_of (fun h=>fn35 (by simp) h) ?_)
 repeat' (first
  |(refine k_L ?_;refine a_p rfl ?_)
  |refine a_n ?_
  |(refine k_V ?_;first|refine v_seq ?_|refine v_reg ?_|refine v_skip ?_|(refine v_cn rfl (fun hb=>?_) (fun hb=>?_)<;>try(exfalso;omega)))
  |refine s_n ?_)
 refine g_range xs.length (fun _:Unit=>[(0,.v (.slice d.a xs.length d.cap)),(1,.v (.slice e.a xs.length e.cap))]) (fun _=>[ro m]) (fun _ _=>True) () trivial (fun i _ hi _=>?_) (fun _ _=>?_)
 ·obtain⟨w,gw⟩:∃w,xs[i]?=some w:=⟨_,List.getElem?_eq_getElem hi⟩
  repeat' (first
   |(refine k_L ?_;first|refine a_p rfl ?_|(refine k_l ?_;refine g_l rfl ?_)|(refine k_i ?_;refine g_i rfl rfl ?_)|(refine a_i (e:=d) rfl rfl (kn_h (kn_ro hx (kn_h (bs_sl gw)))) (by omega) ?_)|(refine a_l rfl (rd_h (rd_ro hx (rd_h (rd_sl (j:=0) (fun _=>rfl) gw rfl)))) ?_))
   |refine a_n ?_
   |(refine k_V ?_;first|refine v_seq ?_|refine v_reg ?_|refine v_dreg ?_|refine v_skip ?_|(refine v_cn rfl (fun hb=>?_) (fun hb=>?_)<;>try(exfalso;omega))))
  all_goals first
   |exact r_nx () trivial
   |(exfalso;simp at hb;done)
 ·repeat' (first
   |refine a_n ?_
   |(refine k_V ?_;refine v_rv ?_))
  exact fa_q (by simp) (fun _ _=>rfl) rfl
theorem has_1{m:Mem}{A B C:Asr}(h:Has m [A,B,C]):Has m [A]∧Has m [B]∧Has m [C]:=by
 refine⟨h.ent (Pm.ent pmt),h.ent (Pm.ent pmt),h.ent (Pm.ent pmt)⟩
theorem has_pr{m:Mem}{cd:D}{ys:List CS}{i:Nat}{y:CS}(h:Has m [clA cd ys])(hi:ys[i]?=some y):Has m [slA 6 pv y.d y.c.pairs]:=by
 refine h.ent ((cl_split hi).trans ?_)
 exact Pm.ent pmt
theorem wHeap_t{m:Mem}{x y:HX}(hx:Has m x.body)(hy:Has m y.body)(e:x.H=y.H):Qt Tryz.prog 11 [x.v,y.v] m (.bool true):=by
 obtain⟨x1,x2,x3⟩:=has_1 hx
 obtain⟨y1,y2,y3⟩:=has_1 hy
 have er:y.regs=x.regs:=(congrArg Heap.regs e).symm
 have eg:y.gray=x.gray:=(congrArg Heap.gray e).symm
 have ec:x.H.cells=y.H.cells:=congrArg Heap.cells e
 have el:x.xs.length=y.xs.length:=by have:=congrArg List.length ec;rw[x.len,y.len]at this;exact this
 rw[er]at y1
 rw[eg]at y3
 have a1:x.hdr.room=y.hdr.room:=congrArg Heap.room e
 have a2:x.hdr.used=y.hdr.used:=congrArg Heap.used e
 have a3:x.hdr.born=y.hdr.born:=congrArg Heap.born e
 have a4:x.hdr.phase=y.hdr.phase:=congrArg Heap.phase e
 have a5:x.hdr.hand=y.hdr.hand:=congrArg Heap.hand e
 have a6:x.hdr.sub=y.hdr.sub:=congrArg Heap.sub e
 have a7:x.hdr.per=y.hdr.per:=congrArg Heap.per e
 have a8:x.hdr.start=y.hdr.start:=congrArg Heap.start e
 have a9:x.hdr.rounds=y.hdr.rounds:=congrArg Heap.rounds e
 have a10:x.hdr.forced=y.hdr.forced:=congrArg Heap.forced e
 have n1:x.hdr.nc=x.xs.length:=rfl
 have n2:y.hdr.nc=y.xs.length:=rfl
 have hbd:x.xs.length≤140737488355328:=by obtain⟨a,l,s⟩:=x2;exact(kn_h kb_cl).out a s
 refine qt_of (fnA_of (fun h=>fn11 (by simp) h) ?_)
 have q1:∀m',star [ro m] m'→Qt Tryz.prog 33 [.slice x.rd.a x.regs.length x.rd.cap,.slice y.rd.a y.regs.length y.rd.cap] m' (.bool true):=fun m' hm=>by
  rw[er];exact wWords_t (x1.le (ro_of hm (F:=[]) ⟨fun _ h=>h⟩)) (y1.le (ro_of hm (F:=[]) ⟨fun _ h=>h⟩))
 have q3:∀m',star [ro m] m'→Qt Tryz.prog 35 [.slice x.gd.a x.gray.length x.gd.cap,.slice y.gd.a y.gray.length y.gd.cap] m' (.bool true):=fun m' hm=>by
  rw[eg];exact wInts_t (x3.le (ro_of hm (F:=[]) ⟨fun _ h=>h⟩)) (y3.le (ro_of hm (F:=[]) ⟨fun _ h=>h⟩))
 repeat' (first
  |(refine k_L ?_;first|refine a_p rfl ?_|(refine k_g ?_;first|refine a_gy rfl rfl ?_|(refine a_gne rfl (fun hb=>?_) (fun hb=>?_)<;>try(exfalso;omega)))|(refine k_bx ?_;refine a_bx rfl rfl ?_)|(refine k_c ?_;refine a_cq rfl (fun m hm=>q1 m hm) ?_))
  |refine a_n ?_
  |(refine k_V ?_;first|refine v_seq ?_|refine v_reg ?_|refine v_skip ?_|(refine v_cn rfl (fun hb=>?_) (fun hb=>?_)<;>try(exfalso;omega)))
  |refine s_n ?_)
 refine g_range x.xs.length (fun _:Unit=>[(2,.box x.row),(3,.box y.row)]) (fun _=>[ro m]) (fun _ _=>True) () trivial (fun i _ hi _=>?_) (fun _ _=>?_)
 ·obtain⟨u,gu,gc⟩:=HX.at (x:=x) (i:=i) (by omega)
  obtain⟨v,gv,gc'⟩:=HX.at (x:=y) (i:=i) (by omega)
  have euv:u.c=v.c:=by
   rw[ec]at gc
   exact Option.some.inj (gc.symm.trans gc')
  have hu:=has_pr x2 gu
  have hv:=has_pr y2 gv
  have q2:∀m',star [ro m] m'→Qt Tryz.prog 34 [.slice u.d.a u.c.pairs.length u.d.cap,.slice v.d.a v.c.pairs.length v.d.cap] m' (.bool true):=fun m' hm=>by
   rw[←euv]at hv⊢
   exact wPairs_t (hu.le (ro_of hm (F:=[]) ⟨fun _ h=>h⟩)) (hv.le (ro_of hm (F:=[]) ⟨fun _ h=>h⟩))
  have b1:u.c.state=v.c.state:=by rw[euv]
  have b2:u.c.kind=v.c.kind:=by rw[euv]
  have b3:u.c.weak=v.c.weak:=by rw[euv]
  have b4:u.c.last=v.c.last:=by rw[euv]
  have b5:u.c.born=v.c.born:=by rw[euv]
  have b6:u.c.color=v.c.color:=by rw[euv]
  have b7:u.c.to=v.c.to:=by rw[euv]
  repeat' (first
   |(refine k_L ?_;first|refine a_p rfl ?_|(refine k_g ?_;first|refine a_gy rfl rfl ?_|(refine a_gne rfl (fun hb=>?_) (fun hb=>?_)<;>try(exfalso;omega)))|(refine k_st ?_;refine g_sw rfl rfl rfl rfl (Nat.le_of_ble_eq_true rfl) ?_)|(refine k_al ?_;refine a_al ?_)|(refine k_c ?_;refine a_cq rfl (fun m hm=>q2 m hm) ?_)|(refine a_i (e:=x.cd) rfl rfl (kn_h (kn_ro x2 (kn_h (kn_cl gu)))) (by omega) ?_)|(refine a_i (e:=y.cd) rfl rfl (kn_h (kn_ro y2 (kn_h (kn_cl gv)))) (by omega) ?_)|(refine a_ls rfl (rs_h (rs_ro x2 (rs_h (rs_cl gu)))) ?_)|(refine a_ls rfl (rs_h (rs_ro y2 (rs_h (rs_cl gv)))) ?_))
   |refine a_n ?_
   |(refine k_V ?_;first|refine v_seq ?_|refine v_reg ?_|refine v_skip ?_|refine v_cf rfl ?_)
   |refine sk_zero ?_
   |refine sk_succ ?_
   |refine wk_nil ?_
   |refine wk_cons ?_)
  all_goals exact r_nx () trivial
 ·repeat' (first
   |(refine k_L ?_;first|refine a_p rfl ?_|(refine k_g ?_;first|refine a_gy rfl rfl ?_|(refine a_gd rfl (fun hb=>?_) (fun hb=>?_)<;>try(exfalso;omega)))|(refine k_c ?_;refine a_cq rfl (fun m hm=>q3 m hm) ?_))
   |refine a_n ?_
   |(refine k_V ?_;first|refine v_seq ?_|refine v_reg ?_|refine v_ret ?_))
  exact fa_q (by simp) (fun _ _=>rfl) (by rw[a10];simp)
noncomputable def Heap.leftA(H:Heap):Int:=if okH H=0 then outN H else 0
noncomputable def Heap.stepA(H:Heap)(n:Int):Heap:=if okH H=0∧0≤n∧n≤100000 then H.stepH n else Heap.nil
noncomputable def stepAN(H:Heap)(n:Int):Int:=if okH H=0∧0≤n∧n≤100000 then stepN H n else 0
theorem implLeft_q{m:Mem}{x:HX}(h:Has m x.body):Qt Tryz.prog 19 [x.v] m (.int .i64 x.H.leftA):=by
 unfold Heap.leftA
 refine qt_of (fnA_of (fun h=>fn19 (by simp) h) ?_)
 by_cases hS:okH x.H=0
 ·have hs1:=(okH_sound x.H).1 hS
  rw[if_pos hS]
  repeat' (first
   |(refine k_L ?_;first|refine a_p rfl ?_|(refine k_bx ?_;refine a_bx rfl rfl ?_)|(refine k_c ?_;refine a_cq rfl (fun m hm=>qt_e (sound_q (x:=x) (has_g h hm)) (congrArg Value.bool (decide_eq_true hS))) ?_)|(refine g_c rfl (twin_a h hs1.r1 hs1.r2) (fun v As' hq=>?_);obtain⟨b,z,rfl,rfl,hz⟩:=hq))
   |refine a_n ?_
   |(refine k_V ?_;first|refine v_seq ?_|refine v_reg ?_|refine v_skip ?_|refine v_cf rfl ?_))
  refine g_c rfl (finish_a (x:=z) (by rw[hz];exact hs1)) (fun v As' hq=>?_)
  obtain⟨u,rfl,rfl,hu⟩:=hq
  rw[hz]
  repeat' (first
   |(refine k_L ?_;refine a_p rfl ?_)
   |refine a_n ?_
   |(refine k_V ?_;refine v_ret ?_))
  exact fa_q (by simp) (fun _ _=>rfl) rfl
 ·rw[if_neg hS]
  repeat' (first
   |(refine k_L ?_;first|refine a_p rfl ?_|(refine k_bx ?_;refine a_bx rfl rfl ?_)|(refine k_c ?_;refine a_cq rfl (fun m hm=>qt_e (sound_q (x:=x) (has_g h hm)) (congrArg Value.bool (decide_eq_false hS))) ?_))
   |refine a_n ?_
   |(refine k_V ?_;first|refine v_rv ?_|refine v_seq ?_|refine v_reg ?_|refine v_ct rfl ?_)
   |refine s_r ?_)
  exact fa_q (by simp) (fun _ _=>rfl) rfl
theorem specLeft_q{m:Mem}{x:HX}(h:Has m x.body):Qt Tryz.prog 20 [x.v] m (.int .i64 x.H.leftA):=by
 unfold Heap.leftA
 refine qt_of (fnA_of (fun h=>fn20 (by simp) h) ?_)
 by_cases hS:okH x.H=0
 ·have hs1:=(okH_sound x.H).1 hS
  rw[if_pos hS]
  repeat' (first
   |(refine k_L ?_;first|refine a_p rfl ?_|(refine k_bx ?_;refine a_bx rfl rfl ?_)|(refine k_c ?_;refine a_cq rfl (fun m hm=>qt_e (specHeapOk_q (x:=x) (has_g h hm)) (by rw[hS])) ?_)|(refine g_c rfl (l1copy_a h hs1.r1 hs1.r2) (fun v As' hq=>?_);obtain⟨b,z,rfl,rfl,hz⟩:=hq))
   |refine a_n ?_
   |(refine k_V ?_;first|refine v_seq ?_|refine v_reg ?_|refine v_skip ?_|refine v_cf rfl ?_))
  refine g_c rfl (l3out_a (x:=z) (by rw[hz];exact hs1)) (fun v As' hq=>?_)
  obtain⟨u,rfl,rfl,hu⟩:=hq
  rw[hz]
  repeat' (first
   |(refine k_L ?_;refine a_p rfl ?_)
   |refine a_n ?_
   |(refine k_V ?_;refine v_ret ?_))
  exact fa_q (by simp) (fun _ _=>rfl) rfl
 ·rw[if_neg hS]
  repeat' (first
   |(refine k_L ?_;first|refine a_p rfl ?_|(refine k_bx ?_;refine a_bx rfl rfl ?_)|(refine k_c ?_;refine a_cq rfl (fun m hm=>specHeapOk_q (x:=x) (has_g h hm)) ?_))
   |refine a_n ?_
   |(refine k_V ?_;first|refine v_rv ?_|refine v_seq ?_|refine v_reg ?_|(refine v_cn rfl (fun hb=>?_) (fun hb=>?_)<;>try(exfalso;omega)))
   |refine s_r ?_)
  exact fa_q (by simp) (fun _ _=>rfl) rfl
def HX.vn(x:HX)(n:Int):Value:=.agg (x.row++[Value.int .i64 n]).toArray
def outAN(m:Mem)(K:Heap)(n:Int)(v:Value)(As:List Asr):Prop:=∃E,(∃y:HX,v=y.vn n∧y.H=K∧E=y.body)∧As=E++[ro m]
theorem implStep_a{m:Mem}{x:HX}{n:Int}(h:Has m x.body):FnA Tryz.prog 17 [x.v,.int .i64 n] [ro m] (outAN m (x.H.stepA n) (stepAN x.H n)):=by
 unfold Heap.stepA stepAN
 refine fnA_of (fun h=>fn17 (by simp) h) ?_
 by_cases hS:okH x.H=0
 ·have hs1:=(okH_sound x.H).1 hS
  by_cases hn:0≤n∧n≤100000
  ·rw[if_pos ⟨hS,hn⟩,if_pos ⟨hS,hn⟩]
   repeat' (first
    |(refine k_L ?_;first|refine a_p rfl ?_|(refine k_g ?_;refine a_gy rfl rfl ?_)|(refine k_al ?_;refine a_al ?_)|(refine k_bx ?_;refine a_bx rfl rfl ?_)|(refine k_c ?_;first|refine a_cq rfl (fun m hm=>qt_e (sound_q (x:=x) (has_g h hm)) (congrArg Value.bool (decide_eq_true hS))) ?_|refine a_cq rfl (fun m hm=>impl.withinQ) ?_)|(refine g_c rfl (twin_a h hs1.r1 hs1.r2) (fun v As' hq=>?_);obtain⟨b,z,rfl,rfl,hz⟩:=hq))
    |refine a_n ?_
    |(refine k_V ?_;first|refine v_seq ?_|refine v_reg ?_|refine v_skip ?_|(refine v_cd rfl (fun hb=>?_) (fun hb=>?_)<;>try(exfalso;omega))|(refine v_cnd rfl (fun hb=>?_) (fun hb=>?_)<;>try(exfalso;omega))))
   ·have zb:z.begin.H=x.H.beginH:=by rw[begin_H,hz]
    repeat' (first
     |(refine k_L ?_;first|refine a_p rfl ?_|(refine g_c rfl (begin_a (x:=z)) (fun v As' hq=>?_);subst hq))
     |refine a_n ?_
     |(refine k_V ?_;first|refine v_seq ?_|refine v_reg ?_))
    refine g_c rfl (step_a (x:=z.begin) (n:=n) (by rw[zb];exact beginH_ok hs1) (by omega)) (fun v As' hq=>?_)
    obtain⟨u,rfl,rfl,hu⟩:=hq
    rw[zb]at hu⊢
    repeat' (first
     |(refine k_L ?_;first|(refine k_ad ?_;refine g_ad rfl rfl ?_)|(refine k_su ?_;refine g_su rfl rfl ?_)|(refine k_ml ?_;refine g_ml rfl rfl ?_)|(refine k_g ?_;first|refine a_gy rfl rfl ?_|refine a_gn rfl rfl ?_|refine a_gu rfl ?_|(refine a_gd rfl (fun hb=>?_) (fun hb=>?_)<;>try(exfalso;omega))|(refine a_ge rfl (fun hb=>?_) (fun hb=>?_)<;>try(exfalso;omega))|(refine a_gne rfl (fun hb=>?_) (fun hb=>?_)<;>try(exfalso;omega))|(refine a_gnd rfl (fun hb=>?_) (fun hb=>?_)<;>try(exfalso;omega)))|(refine k_l ?_;refine g_l rfl ?_)|(refine k_i ?_;refine g_i rfl rfl ?_)|(refine k_ls ?_;refine g_ls rfl ?_)|(refine k_st ?_;first|refine g_st rfl rfl rfl rfl ?_|refine g_sw rfl rfl rfl rfl (Nat.le_of_ble_eq_true rfl) ?_)|(refine k_al ?_;refine a_al ?_)|(refine k_bx ?_;refine a_bx rfl rfl ?_)|(refine k_bl ?_;refine a_bl rfl ?_))
     |refine a_n ?_
     |(refine k_V ?_;first|refine v_rv ?_|refine v_seq ?_|refine v_reg ?_|refine v_dreg ?_|refine v_zreg ?_|refine v_bs ?_|refine v_br ?_|refine v_bd ?_|refine v_bc ?_|refine v_bk ?_|refine v_bb ?_|refine v_ret ?_|refine v_exit ?_|refine v_skip ?_|refine v_ct rfl ?_|refine v_cf rfl ?_|(refine v_cd rfl (fun hb=>?_) (fun hb=>?_)<;>try(exfalso;omega))|(refine v_ce rfl (fun hb=>?_) (fun hb=>?_)<;>try(exfalso;omega))|(refine v_cn rfl (fun hb=>?_) (fun hb=>?_)<;>try(exfalso;omega))|(refine v_cnd rfl (fun hb=>?_) (fun hb=>?_)<;>try(exfalso;omega)))
     |refine s_n ?_
     |refine s_r ?_
     |refine s_e ?_
     |refine b_n ?_
     |refine b_r ?_
     |refine b_e ?_
     |refine b_o rfl ?_
     |refine r_rt ?_
     |refine r_bk rfl ?_
     |refine r_ex rfl rfl ?_
     |refine sk_zero ?_
     |refine sk_succ ?_
     |refine wk_nil ?_
     |refine wk_cons ?_)
    refine a_p rfl (a_n ?_)
    repeat' (first
     |refine a_n ?_
     |(refine k_V ?_;first|refine v_seq ?_|refine v_reg ?_))
    refine a_p rfl ?_
    refine a_p rfl ?_
    repeat' (first
     |(refine k_L ?_;(refine k_ls ?_;refine g_ls rfl ?_))
     |refine a_n ?_)
    refine a_p rfl ?_
    refine a_p (sv:=.v (u.vn ((min n.toNat (outN x.H.beginH):Nat)))) rfl ?_
    repeat' (first
     |(refine k_L ?_;(refine k_st ?_;refine g_sw rfl rfl rfl rfl (Nat.le_of_ble_eq_true rfl) ?_))
     |refine a_n ?_
     |(refine k_V ?_;refine v_ret ?_)
     |refine sk_zero ?_
     |refine sk_succ ?_
     |refine wk_nil ?_
     |refine wk_cons ?_)
    refine fa_r (As':=u.body++[ro m]) (fun _ _=>rfl) (Pm.ent pmt) ⟨_,⟨u,?_,?_,rfl⟩,rfl⟩
    ·unfold stepN
     rw[if_neg (by omega)];rfl
    ·unfold Heap.stepH stepN
     rw[if_neg (by omega),if_neg (by omega)];exact hu
   ·refine g_c rfl (step_a (x:=z) (n:=n) (by rw[hz];exact hs1) (by omega)) (fun v As' hq=>?_)
    obtain⟨u,rfl,rfl,hu⟩:=hq
    have e0:min n.toNat (outN z.H)=0:=by omega
    rw[e0]at hu⊢
    repeat' (first
     |(refine k_L ?_;first|(refine k_ad ?_;refine g_ad rfl rfl ?_)|(refine k_su ?_;refine g_su rfl rfl ?_)|(refine k_ml ?_;refine g_ml rfl rfl ?_)|(refine k_g ?_;first|refine a_gy rfl rfl ?_|refine a_gn rfl rfl ?_|refine a_gu rfl ?_|(refine a_gd rfl (fun hb=>?_) (fun hb=>?_)<;>try(exfalso;omega))|(refine a_ge rfl (fun hb=>?_) (fun hb=>?_)<;>try(exfalso;omega))|(refine a_gne rfl (fun hb=>?_) (fun hb=>?_)<;>try(exfalso;omega))|(refine a_gnd rfl (fun hb=>?_) (fun hb=>?_)<;>try(exfalso;omega)))|(refine k_l ?_;refine g_l rfl ?_)|(refine k_i ?_;refine g_i rfl rfl ?_)|(refine k_ls ?_;refine g_ls rfl ?_)|(refine k_st ?_;first|refine g_st rfl rfl rfl rfl ?_|refine g_sw rfl rfl rfl rfl (Nat.le_of_ble_eq_true rfl) ?_)|(refine k_al ?_;refine a_al ?_)|(refine k_bx ?_;refine a_bx rfl rfl ?_)|(refine k_bl ?_;refine a_bl rfl ?_))
     |refine a_n ?_
     |(refine k_V ?_;first|refine v_rv ?_|refine v_seq ?_|refine v_reg ?_|refine v_dreg ?_|refine v_zreg ?_|refine v_bs ?_|refine v_br ?_|refine v_bd ?_|refine v_bc ?_|refine v_bk ?_|refine v_bb ?_|refine v_ret ?_|refine v_exit ?_|refine v_skip ?_|refine v_ct rfl ?_|refine v_cf rfl ?_|(refine v_cd rfl (fun hb=>?_) (fun hb=>?_)<;>try(exfalso;omega))|(refine v_ce rfl (fun hb=>?_) (fun hb=>?_)<;>try(exfalso;omega))|(refine v_cn rfl (fun hb=>?_) (fun hb=>?_)<;>try(exfalso;omega))|(refine v_cnd rfl (fun hb=>?_) (fun hb=>?_)<;>try(exfalso;omega)))
     |refine s_n ?_
     |refine s_r ?_
     |refine s_e ?_
     |refine b_n ?_
     |refine b_r ?_
     |refine b_e ?_
     |refine b_o rfl ?_
     |refine r_rt ?_
     |refine r_bk rfl ?_
     |refine r_ex rfl rfl ?_
     |refine sk_zero ?_
     |refine sk_succ ?_
     |refine wk_nil ?_
     |refine wk_cons ?_)
    refine a_p rfl (a_n ?_)
    repeat' (first
     |refine a_n ?_
     |(refine k_V ?_;first|refine v_seq ?_|refine v_reg ?_))
    refine a_p rfl ?_
    refine a_p rfl ?_
    repeat' (first
     |(refine k_L ?_;(refine k_ls ?_;refine g_ls rfl ?_))
     |refine a_n ?_)
    refine a_p rfl ?_
    refine a_p (sv:=.v (u.vn (((0:Nat):Int)))) rfl ?_
    repeat' (first
     |(refine k_L ?_;(refine k_st ?_;refine g_sw rfl rfl rfl rfl (Nat.le_of_ble_eq_true rfl) ?_))
     |refine a_n ?_
     |(refine k_V ?_;refine v_ret ?_)
     |refine sk_zero ?_
     |refine sk_succ ?_
     |refine wk_nil ?_
     |refine wk_cons ?_)
    refine fa_r (As':=u.body++[ro m]) (fun _ _=>rfl) (Pm.ent pmt) ⟨_,⟨u,?_,?_,rfl⟩,rfl⟩
    ·unfold stepN
     rw[if_pos (by omega)];rfl
    ·unfold Heap.stepH
     rw[if_pos (by omega),hu];exact hz
  ·rw[if_neg (fun h=>hn h.2),if_neg (fun h=>hn h.2)]
   repeat' (first
    |(refine k_L ?_;first|refine a_p rfl ?_|(refine k_g ?_;refine a_gy rfl rfl ?_)|(refine k_st ?_;refine g_sw rfl rfl rfl rfl (Nat.le_of_ble_eq_true rfl) ?_)|(refine k_al ?_;refine a_al ?_)|(refine k_bx ?_;refine a_bx rfl rfl ?_)|(refine k_c ?_;first|refine a_cq rfl (fun m hm=>qt_e (sound_q (x:=x) (has_g h hm)) (congrArg Value.bool (decide_eq_true hS))) ?_|refine a_cq rfl (fun m hm=>impl.withinQ) ?_))
    |refine a_n ?_
    |(refine k_V ?_;first|refine v_seq ?_|refine v_reg ?_|refine v_ret ?_|(refine v_cnd rfl (fun hb=>?_) (fun hb=>?_)<;>try(exfalso;omega)))
    |refine s_r ?_
    |refine sk_zero ?_
    |refine sk_succ ?_
    |refine wk_nil ?_
    |refine wk_cons ?_)
   exact fa_r (As':=HX.nil.body++[ro m]) (fun _ _=>rfl) nil_ent ⟨_,⟨HX.nil,rfl,rfl,rfl⟩,rfl⟩
 ·rw[if_neg (fun h=>hS h.1),if_neg (fun h=>hS h.1)]
  repeat' (first
   |(refine k_L ?_;first|refine a_p rfl ?_|(refine k_g ?_;refine a_gn rfl rfl ?_)|(refine k_st ?_;refine g_sw rfl rfl rfl rfl (Nat.le_of_ble_eq_true rfl) ?_)|(refine k_al ?_;refine a_al ?_)|(refine k_bx ?_;refine a_bx rfl rfl ?_)|(refine k_c ?_;refine a_cq rfl (fun m hm=>qt_e (sound_q (x:=x) (has_g h hm)) (congrArg Value.bool (decide_eq_false hS))) ?_))
   |refine a_n ?_
   |(refine k_V ?_;first|refine v_seq ?_|refine v_reg ?_|refine v_ret ?_|refine v_ct rfl ?_)
   |refine s_r ?_
   |refine sk_zero ?_
   |refine sk_succ ?_
   |refine wk_nil ?_
   |refine wk_cons ?_)
  exact fa_r (As':=HX.nil.body++[ro m]) (fun _ _=>rfl) nil_ent ⟨_,⟨HX.nil,rfl,rfl,rfl⟩,rfl⟩
theorem specStep_a{m:Mem}{x:HX}{n:Int}(h:Has m x.body):FnA Tryz.prog 18 [x.v,.int .i64 n] [ro m] (outAN m (x.H.stepA n) (stepAN x.H n)):=by
 unfold Heap.stepA stepAN
 refine fnA_of (fun h=>fn18 (by simp) h) ?_
 by_cases hS:okH x.H=0
 ·have hs1:=(okH_sound x.H).1 hS
  by_cases hn:0≤n∧n≤100000
  ·rw[if_pos ⟨hS,hn⟩,if_pos ⟨hS,hn⟩]
   repeat' (first
    |(refine k_L ?_;first|refine a_p rfl ?_|(refine k_g ?_;first|refine a_gy rfl rfl ?_|(refine a_gd rfl (fun hb=>?_) (fun hb=>?_)<;>try(exfalso;omega)))|(refine k_al ?_;refine a_al ?_)|(refine k_bx ?_;refine a_bx rfl rfl ?_)|(refine k_c ?_;refine a_cq rfl (fun m hm=>qt_e (specHeapOk_q (x:=x) (has_g h hm)) (by rw[hS])) ?_)|(refine g_c rfl (l1copy_a h hs1.r1 hs1.r2) (fun v As' hq=>?_);obtain⟨b,z,rfl,rfl,hz⟩:=hq))
    |refine a_n ?_
    |(refine k_V ?_;first|refine v_seq ?_|refine v_reg ?_|refine v_skip ?_|(refine v_cd rfl (fun hb=>?_) (fun hb=>?_)<;>try(exfalso;omega))))
   refine g_c rfl (l3step_a (x:=z) (n:=n) (by rw[hz];exact hs1) (by omega)) (fun v As' hq=>?_)
   obtain⟨u,rfl,rfl,hu⟩:=hq
   rw[hz]at hu⊢
   repeat' (first
    |(refine k_L ?_;first|(refine k_ad ?_;refine g_ad rfl rfl ?_)|(refine k_su ?_;refine g_su rfl rfl ?_)|(refine k_ml ?_;refine g_ml rfl rfl ?_)|(refine k_g ?_;first|refine a_gy rfl rfl ?_|refine a_gn rfl rfl ?_|refine a_gu rfl ?_|(refine a_gd rfl (fun hb=>?_) (fun hb=>?_)<;>try(exfalso;omega))|(refine a_ge rfl (fun hb=>?_) (fun hb=>?_)<;>try(exfalso;omega))|(refine a_gne rfl (fun hb=>?_) (fun hb=>?_)<;>try(exfalso;omega))|(refine a_gnd rfl (fun hb=>?_) (fun hb=>?_)<;>try(exfalso;omega)))|(refine k_l ?_;refine g_l rfl ?_)|(refine k_i ?_;refine g_i rfl rfl ?_)|(refine k_ls ?_;refine g_ls rfl ?_)|(refine k_st ?_;first|refine g_st rfl rfl rfl rfl ?_|refine g_sw rfl rfl rfl rfl (Nat.le_of_ble_eq_true rfl) ?_)|(refine k_al ?_;refine a_al ?_)|(refine k_bx ?_;refine a_bx rfl rfl ?_)|(refine k_bl ?_;refine a_bl rfl ?_))
    |refine a_n ?_
    |(refine k_V ?_;first|refine v_rv ?_|refine v_seq ?_|refine v_reg ?_|refine v_dreg ?_|refine v_zreg ?_|refine v_bs ?_|refine v_br ?_|refine v_bd ?_|refine v_bc ?_|refine v_bk ?_|refine v_bb ?_|refine v_ret ?_|refine v_exit ?_|refine v_skip ?_|refine v_ct rfl ?_|refine v_cf rfl ?_|(refine v_cd rfl (fun hb=>?_) (fun hb=>?_)<;>try(exfalso;omega))|(refine v_ce rfl (fun hb=>?_) (fun hb=>?_)<;>try(exfalso;omega))|(refine v_cn rfl (fun hb=>?_) (fun hb=>?_)<;>try(exfalso;omega))|(refine v_cnd rfl (fun hb=>?_) (fun hb=>?_)<;>try(exfalso;omega)))
    |refine s_n ?_
    |refine s_r ?_
    |refine s_e ?_
    |refine b_n ?_
    |refine b_r ?_
    |refine b_e ?_
    |refine b_o rfl ?_
    |refine r_rt ?_
    |refine r_bk rfl ?_
    |refine r_ex rfl rfl ?_
    |refine sk_zero ?_
    |refine sk_succ ?_
    |refine wk_nil ?_
    |refine wk_cons ?_)
   refine a_p rfl (a_n ?_)
   repeat' (first
    |refine a_n ?_
    |(refine k_V ?_;first|refine v_seq ?_|refine v_reg ?_))
   refine a_p rfl ?_
   refine a_p rfl ?_
   repeat' (first
    |(refine k_L ?_;(refine k_ls ?_;refine g_ls rfl ?_))
    |refine a_n ?_)
   refine a_p rfl ?_
   refine a_p (sv:=.v (u.vn ((stepN x.H n:Nat)))) rfl ?_
   repeat' (first
    |(refine k_L ?_;(refine k_st ?_;refine g_sw rfl rfl rfl rfl (Nat.le_of_ble_eq_true rfl) ?_))
    |refine a_n ?_
    |(refine k_V ?_;refine v_ret ?_)
    |refine sk_zero ?_
    |refine sk_succ ?_
    |refine wk_nil ?_
    |refine wk_cons ?_)
   exact fa_r (As':=u.body++[ro m]) (fun _ _=>rfl) (Pm.ent pmt) ⟨_,⟨u,rfl,hu,rfl⟩,rfl⟩
  ·rw[if_neg (fun h=>hn h.2),if_neg (fun h=>hn h.2)]
   repeat' (first
    |(refine k_L ?_;first|refine a_p rfl ?_|(refine k_g ?_;first|refine a_gy rfl rfl ?_|refine a_gn rfl rfl ?_|(refine a_gd rfl (fun hb=>?_) (fun hb=>?_)<;>try(exfalso;omega)))|(refine k_st ?_;refine g_sw rfl rfl rfl rfl (Nat.le_of_ble_eq_true rfl) ?_)|(refine k_al ?_;refine a_al ?_)|(refine k_bx ?_;refine a_bx rfl rfl ?_)|(refine k_c ?_;refine a_cq rfl (fun m hm=>qt_e (specHeapOk_q (x:=x) (has_g h hm)) (by rw[hS])) ?_))
    |refine a_n ?_
    |(refine k_V ?_;first|refine v_seq ?_|refine v_reg ?_|refine v_ret ?_|refine v_ct rfl ?_|(refine v_cd rfl (fun hb=>?_) (fun hb=>?_)<;>try(exfalso;omega)))
    |refine s_r ?_
    |refine sk_zero ?_
    |refine sk_succ ?_
    |refine wk_nil ?_
    |refine wk_cons ?_)
   all_goals exact fa_r (As':=HX.nil.body++[ro m]) (fun _ _=>rfl) nil_ent ⟨_,⟨HX.nil,rfl,rfl,rfl⟩,rfl⟩
 ·rw[if_neg (fun h=>hS h.1),if_neg (fun h=>hS h.1)]
  repeat' (first
   |(refine k_L ?_;first|refine a_p rfl ?_|(refine k_g ?_;first|refine a_gn rfl rfl ?_|(refine a_gne rfl (fun hb=>?_) (fun hb=>?_)<;>try(exfalso;omega)))|(refine k_st ?_;refine g_sw rfl rfl rfl rfl (Nat.le_of_ble_eq_true rfl) ?_)|(refine k_al ?_;refine a_al ?_)|(refine k_bx ?_;refine a_bx rfl rfl ?_)|(refine k_c ?_;refine a_cq rfl (fun m hm=>specHeapOk_q (x:=x) (has_g h hm)) ?_))
   |refine a_n ?_
   |(refine k_V ?_;first|refine v_seq ?_|refine v_reg ?_|refine v_ret ?_|refine v_ct rfl ?_)
   |refine s_r ?_
   |refine sk_zero ?_
   |refine sk_succ ?_
   |refine wk_nil ?_
   |refine wk_cons ?_)
  exact fa_r (As':=HX.nil.body++[ro m]) (fun _ _=>rfl) nil_ent ⟨_,⟨HX.nil,rfl,rfl,rfl⟩,rfl⟩
def OkK(K:Heap):Prop:=Sound K∨K=Heap.nil
theorem OkK.fin{K:Heap}(h:OkK K):1≤endH 1 K∧endH 1 K≤1000000:=by
 have hn:=pairsN_nonneg K.cells
 rcases h with h|rfl
 ·have h1:=h.r1.regs
  have h2:=h.r1.cells
  have h3:=h.r1.room
  have h4:=h.r1.gray
  have h5:=pairsN_units h.r2
  have h6:=h.r3
  unfold R3 at h6
  rw[endH_eq];omega
 ·rw[endH_eq];simp[Heap.nil,pairsN]
theorem Hue.symm{H K:Heap}(h:Hue H K):Hue K H:=
 ⟨h.len.symm,fun j=>by rw[h.cell j];rfl,h.regs.symm,h.room.symm,h.born.symm,h.per.symm,h.start.symm,h.forced.symm⟩
theorem out0{H:Heap}(h:Sound H):outN H=0↔H.phase=0:=by
 have:=out_phase h (j:=0) (by omega)
 constructor
 ·intro e;exact this.2 e.symm
 ·intro e;exact(this.1 e).symm
theorem stepN_le{H:Heap}(h:Sound H){a:Int}(ha:0≤a):(stepN H a:Int)≤a∧((stepN H a:Int)<a→(H.stepH a).phase=0):=by
 unfold stepN Heap.stepH stepN
 by_cases h0:a=0
 ·rw[if_pos h0,h0];exact⟨by omega,fun x=>by omega⟩
 ·rw[if_neg h0,if_neg h0]
  refine⟨by omega,fun x=>?_⟩
  have e:min a.toNat (outN H.beginH)=outN H.beginH:=by omega
  rw[e]
  exact(outN_ok (beginH_ok h)).1.1
theorem begin_on{H:Heap}(hp:H.phase≠0):H.beginH=H:=by unfold Heap.beginH;rw[if_neg hp]
theorem out_rest{H:Heap}(h:Sound H){k:Nat}(hk:k≤outN H):outN (iterU k H)=outN H-k:=by
 obtain⟨⟨a,b⟩,_⟩:=outN_ok h
 have hs:=iterU_sound k h
 refine IsOut.unique (outN_ok hs).1 ⟨?_,fun j hj=>?_⟩
 ·rw[←iterU_add,show outN H-k+k=outN H by omega];exact a
 ·rw[←iterU_add];exact b _ (by omega)
theorem step_add{H:Heap}(h:Sound H){a b:Int}(ha:0≤a)(hb:0≤b)(he:(stepN H a:Int)=a)(hp:(H.stepH a).phase≠0):
 (H.stepH a).stepH b=H.stepH (a+b)∧(stepN H (a+b):Int)=a+stepN (H.stepH a) b:=by
 by_cases h0:a=0
 ·subst h0
  have e:H.stepH 0=H:=by unfold Heap.stepH;rw[if_pos rfl]
  rw[e];simp
 have hB:=beginH_ok h
 have e1:H.stepH a=iterU a.toNat H.beginH:=by
  unfold Heap.stepH
  rw[if_neg h0,show stepN H a=a.toNat by omega]
 have hle:a.toNat≤outN H.beginH:=by
  unfold stepN at he
  rw[if_neg h0]at he;omega
 have e2:=out_rest hB hle
 rw[←e1]at e2
 have e3:=begin_on hp
 by_cases hb0:b=0
 ·subst hb0
  have e:(H.stepH a).stepH 0=H.stepH a:=by unfold Heap.stepH;rw[if_pos rfl]
  have e':stepN (H.stepH a) 0=0:=by unfold stepN;rw[if_pos rfl]
  rw[e,e'];simp;exact he
 ·have en:stepN (H.stepH a) b=min b.toNat (outN H.beginH-a.toNat):=by
   unfold stepN
   rw[if_neg hb0,e3,e2]
  have em:stepN H (a+b)=a.toNat+min b.toNat (outN H.beginH-a.toNat):=by
   unfold stepN
   rw[if_neg (by omega)];omega
  refine⟨?_,by rw[em,en];omega⟩
  have x1:(H.stepH a).stepH b=iterU (stepN (H.stepH a) b) (H.stepH a):=by
   conv=>lhs;unfold Heap.stepH
   rw[if_neg hb0]
   show iterU _ (Heap.beginH (H.stepH a))=_
   rw[e3];rfl
  have x2:H.stepH (a+b)=iterU (stepN H (a+b)) H.beginH:=by
   unfold Heap.stepH
   rw[if_neg (by omega)]
  rw[x1,x2,em,en,e1,←iterU_add]
  congr 1;omega
theorem left_ends{H:Heap}(h:Sound H)(hp:H.phase≠0):(H.stepH (outN H)).phase=0∧(outN H=1∨(H.stepH ((outN H:Int)-1)).phase≠0):=by
 have hn:outN H≠0:=fun e=>hp ((out0 h).1 e)
 obtain⟨⟨a,b⟩,_⟩:=outN_ok h
 have e3:=begin_on hp
 have st:∀k:Nat,k≠0→k≤outN H→H.stepH k=iterU k H:=fun k hk hle=>by
  unfold Heap.stepH stepN
  rw[if_neg (by omega),if_neg (by omega),e3]
  congr 1;omega
 rw[st _ hn (by omega)]
 refine⟨a,?_⟩
 by_cases h1:outN H=1
 ·exact .inl h1
 ·right
  rw[show((outN H:Int)-1)=((outN H-1:Nat):Int) by omega,st _ (by omega) (by omega)]
  exact b _ (by omega)
theorem Cod.le{m m':Mem}{ca:Option Addr}{cn:Nat}(h:Cod m ca cn)(l:m.le m'):Cod m' ca cn:=⟨fun i hi=>by
 obtain⟨b,o,v,e,hc,hv⟩:=h.at_ i hi
 exact⟨b,o,v,e,cell_le l hc,hv⟩,h.bd⟩
theorem given_a{ca:Option Addr}{cn cc:Nat}{m:Mem}(hc:Cod m ca cn):FnA Tryz.prog 6 [.slice ca cn cc] [ro m] (fun v As=>∃x:HX,v=x.v∧Sound x.H∧As=x.body++[ro m]):=by
 refine fnA_of (fun h=>fn6 (by simp) h) ?_
 repeat' (first
  |(refine k_L ?_;first|refine a_p rfl ?_|(refine k_ls ?_;refine g_ls rfl ?_)|(refine k_st ?_;refine g_sw rfl rfl rfl rfl (Nat.le_of_ble_eq_true rfl) ?_)|(refine k_al ?_;refine a_al ?_)|(refine a_nw rfl rfl (fun pc=>?_))|(refine g_c rfl (heap_a (pc:=pc) (cc:=cc) (t:=0) (s:=0) hc (by omega)) (fun v As' hq=>?_);obtain⟨pb,ph,s1,rfl,h1,rfl⟩:=hq))
  |refine a_n ?_
  |(refine k_V ?_;first|refine v_seq ?_|refine v_reg ?_|refine v_ret ?_)
  |refine sk_zero ?_
  |refine sk_succ ?_
  |refine wk_nil ?_
  |refine wk_cons ?_)
 exact fa_r (As':=s1.x.body++[ro m]) (fun _ _=>rfl) (Pm.ent pmt) ⟨_,rfl,h1.snd,rfl⟩
theorem wByte_q{ca:Option Addr}{cn cc:Nat}{m:Mem}{i:Int}(hc:Cod m ca cn)(hi:0≤i∧i≤1000000):∃k:Int,(0≤k∧k≤255)∧∀m',m.le m'→Qt Tryz.prog 16 [.slice ca cn cc,.int .i64 i] m' (.int .i64 k):=by
 by_cases hn:cn=0
 ·refine⟨0,by omega,fun m' l=>qt_of (fnA_of (fun h=>fn16 (by simp) h) ?_)⟩
  have:(cn:Int)=0:=by omega
  repeat' (first
   |(refine k_L ?_;refine a_p rfl ?_)
   |refine a_n ?_
   |(refine k_V ?_;first|refine v_rv ?_|refine v_seq ?_|refine v_reg ?_|(refine v_cd rfl (fun hb=>?_) (fun hb=>?_)<;>try(exfalso;omega)))
   |refine s_r ?_)
  exact fa_q (by simp) (fun _ _=>rfl) rfl
 ·have hbd:=hc.bd
  have hne:(cn:Int)≠0:=by omega
  have h1:=Int.tmod_nonneg (cn:Int) hi.1
  have h2:=Int.tmod_lt_of_pos i (by omega:0<(cn:Int))
  obtain⟨j,hj⟩:=Int.eq_ofNat_of_zero_le h1
  rw[hj]at h2
  obtain⟨b,o,v,e,hcell,hv⟩:=hc.at_ j (by omega)
  subst e
  refine⟨v,hv,fun m' l=>qt_of (fnA_of (fun h=>fn16 (by simp) h) ?_)⟩
  have hcell:=cell_le l hcell
  have rm:∀{P:Program} {r:List I} {d:Option Nat} {post:St→List Asr→Prop} {S:St} {As:List Asr} {x y:Operand},ev S x=some (.int .i64 i)→ev S y=some (.int .i64 cn)→LA P r post (put S d (.v (.int .i64 j))) As→LA P (⟨d,none,.bin .rem x y⟩::r) post S As:=
   fun hx hy hp=>a_p (sv:=.v (.int .i64 _)) (by simp only[pe,hx,hy,binV,binI,if_true,if_neg hne,Option.map_some,hj]) hp
  repeat' (first
   |(refine k_L ?_;first|(refine k_l ?_;refine a_l rfl (by exact rd_h (rd_cod hcell)) ?_)|(refine rm rfl rfl ?_)|(refine b_p rfl ?_)|(refine a_i (e:=⟨some ⟨b,o,none⟩,cc⟩) rfl rfl ⟨fun _ _=>rfl⟩ (by omega) ?_))
   |refine a_n ?_
   |(refine k_V ?_;first|refine v_seq ?_|refine v_reg ?_|refine v_ret ?_|refine v_skip ?_|(refine v_cd rfl (fun hb=>?_) (fun hb=>?_)<;>try(exfalso;omega))))
  exact fa_q (by simp) (fun _ _=>rfl) (by rw[wrap64 (by omega)])
theorem left_s{H:Heap}(h:Sound H):H.leftA=outN H:=by unfold Heap.leftA;rw[if_pos ((okH_sound H).2 h)]
theorem step_s{H:Heap}(h:Sound H){n:Int}(hn:0≤n∧n≤100000):H.stepA n=H.stepH n∧stepAN H n=stepN H n:=by unfold Heap.stepA stepAN;rw[if_pos ⟨(okH_sound H).2 h,hn⟩,if_pos ⟨(okH_sound H).2 h,hn⟩];exact⟨rfl,rfl⟩
theorem fnSteps_q{ca da:Option Addr}{cn cc dn dc:Nat}{m:Mem}(hc:Cod m ca cn)(hd:Cod m da dn):Qt Tryz.prog 4 [.slice ca cn cc,.slice da dn dc] m (.bool true):=by
 have hbd:=hc.bd
 have hbe:=hd.bd
 refine qt_of (fnA_of (fun h=>fn4 (by simp) h) ?_)
 by_cases hn:(cn:Int)>1048576
 ·repeat' (first
   |(refine k_L ?_;first|refine a_p rfl ?_|(refine k_g ?_;first|refine a_gn rfl rfl ?_|(refine a_gd rfl (fun hb=>?_) (fun hb=>?_)<;>try(exfalso;omega))))
   |refine a_n ?_
   |(refine k_V ?_;first|refine v_rv ?_|refine v_seq ?_|refine v_reg ?_|refine v_ct rfl ?_)
   |refine s_r ?_)
  exact fa_q (by simp) (fun _ _=>rfl) rfl
 by_cases hn2:(dn:Int)>1048576
 ·repeat' (first
   |(refine k_L ?_;first|refine a_p rfl ?_|(refine k_g ?_;first|refine a_gy rfl rfl ?_|(refine a_gd rfl (fun hb=>?_) (fun hb=>?_)<;>try(exfalso;omega))))
   |refine a_n ?_
   |(refine k_V ?_;first|refine v_rv ?_|refine v_seq ?_|refine v_reg ?_|(refine v_cd rfl (fun hb=>?_) (fun hb=>?_)<;>try(exfalso;omega)))
   |refine s_r ?_)
  exact fa_q (by simp) (fun _ _=>rfl) rfl
 obtain⟨a,ha,qa⟩:=wByte_q (cc:=dc) (i:=0) hd (by omega)
 obtain⟨b,hbb,qb⟩:=wByte_q (cc:=dc) (i:=1) hd (by omega)
 repeat' (first
  |(refine k_L ?_;first|refine a_p rfl ?_|(refine k_g ?_;first|refine a_gy rfl rfl ?_|(refine a_gd rfl (fun hb=>?_) (fun hb=>?_)<;>try(exfalso;omega)))|(refine k_st ?_;refine g_sw rfl rfl rfl rfl (Nat.le_of_ble_eq_true rfl) ?_)|(refine k_al ?_;refine a_al ?_)|(refine k_c ?_;first|refine a_cq rfl (fun m hm=>qa _ (Mem.le_trans l1 (ro_of hm pmt))) ?_|refine a_cq rfl (fun m hm=>qb _ (Mem.le_trans l1 (ro_of hm pmt))) ?_)|(refine g_c rfl (given_a hc) (fun v As' hq=>?_);obtain⟨h,rfl,hS,rfl⟩:=hq;refine l_fix (fun m1 hm1=>?_);have hh:Has m1 h.body:=sep_has hm1 pmt;have l1:m.le m1:=ro_of hm1 pmt))
  |refine a_n ?_
  |(refine k_V ?_;first|refine v_seq ?_|refine v_reg ?_|refine v_skip ?_|(refine v_cd rfl (fun hb=>?_) (fun hb=>?_)<;>try(exfalso;omega)))
  |refine sk_zero ?_
  |refine sk_succ ?_
  |refine wk_nil ?_
  |refine wk_cons ?_)
 have sa:=step_s hS (n:=a) (by omega)
 refine g_c rfl (implStep_a (x:=h) (n:=a) hh) (fun v As' hq=>?_)
 obtain⟨_,⟨x,rfl,hx,rfl⟩,rfl⟩:=hq
 rw[sa.1]at hx
 rw[sa.2]
 refine l_fix (fun m2 hm2=>?_)
 have hxb:Has m2 x.body:=sep_has hm2 pmt
 have l2:m1.le m2:=ro_of hm2 pmt
 obtain⟨s1,s2⟩:=stepN_le hS ha.1
 repeat' (first
  |(refine k_L ?_;first|refine a_p rfl ?_|(refine k_st ?_;refine g_sw rfl rfl rfl rfl (Nat.le_of_ble_eq_true rfl) ?_)|(refine k_al ?_;refine a_al ?_))
  |refine a_n ?_
  |(refine k_V ?_;first|refine v_seq ?_|refine v_reg ?_)
  |refine sk_zero ?_
  |refine sk_succ ?_
  |refine wk_nil ?_
  |refine wk_cons ?_)
 refine g_c rfl (specStep_a (x:=h) (n:=a) (hh.le l2)) (fun v As' hq=>?_)
 obtain⟨_,⟨w,rfl,hw,rfl⟩,rfl⟩:=hq
 rw[sa.1]at hw
 rw[sa.2]
 have xph:x.hdr.phase=(h.H.stepH a).phase:=by rw[←hx];rfl
 have xS:Sound x.H:=by rw[hx];exact stepH_ok hS a
 have wb:∀m',m2.le m'→Has m' x.body:=fun m' l=>hxb.le l
 repeat' (first
  |(refine k_L ?_;first|(refine k_st ?_;refine g_sw rfl rfl rfl rfl (Nat.le_of_ble_eq_true rfl) ?_)|(refine k_al ?_;refine a_al ?_))
  |refine a_n ?_
  |refine s_n ?_
  |refine sk_zero ?_
  |refine sk_succ ?_
  |refine wk_nil ?_
  |refine wk_cons ?_)
 refine g_cut (fun _:Unit=>[(5,.box h.row),(6,.v (.int .i64 a)),(7,.v (.int .i64 b)),(8,.box (x.row++[.int .i64 (stepN h.H a)]))]) (fun _=>[ro m2]) (fun _=>True) ?_ (fun _ _=>?_)
 ·by_cases e:(stepN h.H a:Int)<a
  ·have e2:x.hdr.phase=0:=by rw[xph];exact s2 e
   repeat' (first
    |(refine k_L ?_;first|refine a_p rfl ?_|(refine k_g ?_;first|refine a_gy rfl rfl ?_|(refine a_gd rfl (fun hb=>?_) (fun hb=>?_)<;>try(exfalso;omega))|(refine a_gne rfl (fun hb=>?_) (fun hb=>?_)<;>try(exfalso;omega)))|(refine k_c ?_;refine a_cq rfl (fun m hm=>wHeap_t (x:=x) (y:=w) (hxb.le (ro_of hm pmt)) (sep_has hm pmt) (by rw[hx,hw])) ?_))
    |refine a_n ?_
    |(refine k_V ?_;first|refine v_seq ?_|refine v_reg ?_|refine v_skip ?_|(refine v_cn rfl (fun hb=>?_) (fun hb=>?_)<;>try(exfalso;omega)))
    |refine s_n ?_)
   exact j_i () trivial
  ·repeat' (first
    |(refine k_L ?_;first|refine a_p rfl ?_|(refine k_g ?_;first|refine a_gy rfl rfl ?_|refine a_gn rfl rfl ?_|(refine a_gd rfl (fun hb=>?_) (fun hb=>?_)<;>try(exfalso;omega))|(refine a_gne rfl (fun hb=>?_) (fun hb=>?_)<;>try(exfalso;omega)))|(refine k_c ?_;refine a_cq rfl (fun m hm=>wHeap_t (x:=x) (y:=w) (hxb.le (ro_of hm pmt)) (sep_has hm pmt) (by rw[hx,hw])) ?_))
    |refine a_n ?_
    |(refine k_V ?_;first|refine v_seq ?_|refine v_reg ?_|refine v_skip ?_|refine v_cf rfl ?_)
    |refine s_n ?_)
   exact j_i () trivial
 refine g_cut (fun _:Unit=>[(5,.box h.row),(6,.v (.int .i64 a))]) (fun _=>[ro m2]) (fun _=>True) ?_ (fun _ _=>?_)
 ·by_cases e:(stepN h.H a:Int)=a∧x.hdr.phase≠0
  ·obtain⟨e1,e2⟩:=e
   obtain⟨t1,t2⟩:=step_add hS ha.1 hbb.1 e1 (by rw[←xph];exact e2)
   rw[←hx]at t1 t2
   have u1:=(stepN_le xS hbb.1).1
   have sb:=step_s xS (n:=b) (by omega)
   have sc:=step_s hS (n:=a+b) (by omega)
   repeat' (first
    |(refine k_L ?_;first|(refine k_ad ?_;refine g_ad rfl rfl ?_)|refine a_p rfl ?_|(refine k_g ?_;first|refine a_gy rfl rfl ?_|(refine a_gd rfl (fun hb=>?_) (fun hb=>?_)<;>try(exfalso;omega)))|(refine k_st ?_;refine g_sw rfl rfl rfl rfl (Nat.le_of_ble_eq_true rfl) ?_)|(refine k_al ?_;refine a_al ?_)|(refine k_c ?_;refine a_cq rfl (fun m hm=>wHeap_t (x:=y) (y:=z) (hyb.le (ro_of hm pmt)) (sep_has hm pmt) (by rw[hy,hz])) ?_)|(refine g_c rfl (implStep_a (x:=x) (n:=b) hxb) (fun v As' hq=>?_);obtain⟨_,⟨y,rfl,hy,rfl⟩,rfl⟩:=hq;rw[sb.1,t1]at hy;rw[sb.2];refine l_fix (fun m3 hm3=>?_);have hyb:Has m3 y.body:=sep_has hm3 pmt;have l3:m2.le m3:=ro_of hm3 pmt)|(refine g_c rfl (implStep_a (x:=h) (n:=a+b) (hh.le (Mem.le_trans l2 l3))) (fun v As' hq=>?_);obtain⟨_,⟨z,rfl,hz,rfl⟩,rfl⟩:=hq;rw[sc.1]at hz;rw[sc.2,t2]))
    |refine a_n ?_
    |(refine k_V ?_;first|refine v_seq ?_|refine v_reg ?_|refine v_skip ?_|(refine v_cn rfl (fun hb=>?_) (fun hb=>?_)<;>try(exfalso;omega)))
    |refine s_n ?_
    |refine sk_zero ?_
    |refine sk_succ ?_
    |refine wk_nil ?_
    |refine wk_cons ?_)
   exact j_i () trivial (he:=(Pm.ent (As1:=[ro m3]) pmt).trans (ent_ro l3))
  ·repeat' (first
    |(refine k_L ?_;first|refine a_p rfl ?_|(refine k_g ?_;first|refine a_gy rfl rfl ?_|refine a_gn rfl rfl ?_|(refine a_gd rfl (fun hb=>?_) (fun hb=>?_)<;>try(exfalso;omega))))
    |refine a_n ?_
    |(refine k_V ?_;first|refine v_seq ?_|refine v_reg ?_|refine v_skip ?_|refine v_cf rfl ?_|(refine v_cn rfl (fun hb=>?_) (fun hb=>?_)<;>try(exfalso;omega)))
    |refine s_n ?_)
   all_goals exact j_i () trivial
 have hh2:=hh.le l2
 have hl:=left_s hS
 have hb3:=(outN_ok hS).2
 have ph0:h.hdr.phase=h.H.phase:=rfl
 have hz:=out0 hS
 have fin:Ent [ro m2] [ro m]:=ent_ro (Mem.le_trans l1 l2)
 by_cases e0:h.hdr.phase=0
 ·have e1:outN h.H=0:=hz.2 e0
  have e2:((outN h.H:Int)==0)=(h.hdr.phase==0):=by rw[e1,e0];rfl
  repeat' (first
   |(refine k_L ?_;first|refine a_p rfl ?_|(refine k_g ?_;first|refine a_gy rfl rfl ?_|refine a_gn rfl rfl ?_|(refine a_gd rfl (fun hb=>?_) (fun hb=>?_)<;>try(exfalso;omega))|(refine a_gne rfl (fun hb=>?_) (fun hb=>?_)<;>try(exfalso;omega)))|(refine k_c ?_;first|refine a_cq rfl (fun m hm=>qt_e (implLeft_q (x:=h) (hh2.le (ro_of hm pmt))) (congrArg (Value.int .i64) hl)) ?_|refine a_cq rfl (fun m hm=>qt_e (specLeft_q (x:=h) (hh2.le (ro_of hm pmt))) (congrArg (Value.int .i64) hl)) ?_))
   |refine a_n ?_
   |(refine k_V ?_;first|refine v_rv ?_|refine v_seq ?_|refine v_reg ?_|refine v_skip ?_|refine v_ct rfl ?_|(refine v_cnd rfl (fun hb=>?_) (fun hb=>?_)<;>try(exfalso;omega)))
   |refine s_r ?_)
  ·exact absurd e2 (by assumption)
  exact fa_r (As':=[ro m]) (fun _ _=>rfl) fin ⟨rfl,rfl⟩
 have e1:outN h.H≠0:=fun e=>e0 (hz.1 e)
 have e2:((outN h.H:Int)==0)=(h.hdr.phase==0):=by rw[beq_eq_false_iff_ne.2 (by omega),beq_eq_false_iff_ne.2 e0]
 by_cases e3:(outN h.H:Int)>100000
 ·repeat' (first
   |(refine k_L ?_;first|refine a_p rfl ?_|(refine k_g ?_;first|refine a_gy rfl rfl ?_|(refine a_gd rfl (fun hb=>?_) (fun hb=>?_)<;>try(exfalso;omega))|(refine a_gne rfl (fun hb=>?_) (fun hb=>?_)<;>try(exfalso;omega)))|(refine k_c ?_;first|refine a_cq rfl (fun m hm=>qt_e (implLeft_q (x:=h) (hh2.le (ro_of hm pmt))) (congrArg (Value.int .i64) hl)) ?_|refine a_cq rfl (fun m hm=>qt_e (specLeft_q (x:=h) (hh2.le (ro_of hm pmt))) (congrArg (Value.int .i64) hl)) ?_))
   |refine a_n ?_
   |(refine k_V ?_;first|refine v_rv ?_|refine v_seq ?_|refine v_reg ?_|refine v_skip ?_|(refine v_cd rfl (fun hb=>?_) (fun hb=>?_)<;>try(exfalso;omega))|(refine v_cnd rfl (fun hb=>?_) (fun hb=>?_)<;>try(exfalso;omega)))
   |refine s_r ?_)
  ·exact absurd e2 (by assumption)
  exact fa_r (As':=[ro m]) (fun _ _=>rfl) fin ⟨rfl,rfl⟩
 repeat' (first
  |(refine k_L ?_;first|refine a_p rfl ?_|(refine k_g ?_;first|refine a_gy rfl rfl ?_|(refine a_gd rfl (fun hb=>?_) (fun hb=>?_)<;>try(exfalso;omega))|(refine a_gne rfl (fun hb=>?_) (fun hb=>?_)<;>try(exfalso;omega)))|(refine k_c ?_;first|refine a_cq rfl (fun m hm=>qt_e (implLeft_q (x:=h) (hh2.le (ro_of hm pmt))) (congrArg (Value.int .i64) hl)) ?_|refine a_cq rfl (fun m hm=>qt_e (specLeft_q (x:=h) (hh2.le (ro_of hm pmt))) (congrArg (Value.int .i64) hl)) ?_))
  |refine a_n ?_
  |(refine k_V ?_;first|refine v_rv ?_|refine v_seq ?_|refine v_reg ?_|refine v_skip ?_|(refine v_cd rfl (fun hb=>?_) (fun hb=>?_)<;>try(exfalso;omega))|(refine v_cnd rfl (fun hb=>?_) (fun hb=>?_)<;>try(exfalso;omega)))
  |refine s_r ?_)
 ·exact absurd e2 (by assumption)
 have sd:=step_s hS (n:=outN h.H) (by omega)
 have se:=step_s hS (n:=(outN h.H:Int)-1) (by omega)
 obtain⟨f1,f2⟩:=left_ends hS e0
 repeat' (first
  |(refine k_L ?_;first|(refine k_su ?_;refine g_su rfl rfl ?_)|refine a_p rfl ?_|(refine k_g ?_;first|refine a_gy rfl rfl ?_|refine a_gn rfl rfl ?_|refine a_gu rfl ?_|(refine a_gd rfl (fun hb=>?_) (fun hb=>?_)<;>try(exfalso;omega)))|(refine g_c rfl (implStep_a (x:=h) (n:=outN h.H) hh2) (fun v As' hq=>?_);obtain⟨_,⟨y,rfl,hy,rfl⟩,rfl⟩:=hq;rw[sd.1]at hy;rw[sd.2];refine l_fix (fun m3 hm3=>?_);have l3:m2.le m3:=ro_of hm3 pmt)|(refine g_c rfl (implStep_a (x:=h) (n:=(outN h.H:Int)-1) (hh2.le l3)) (fun v As' hq=>?_);obtain⟨_,⟨z,rfl,hz,rfl⟩,rfl⟩:=hq;rw[se.1]at hz;rw[se.2]))
  |refine a_n ?_
  |(refine k_V ?_;refine v_ret ?_))
 ·exact fa_r (As':=[ro m]) (fun _ _=>rfl) ((Pm.ent (As1:=[ro m3]) pmt).trans ((ent_ro l3).trans fin)) ⟨rfl,rfl⟩
 ·have zp:z.hdr.phase=(h.H.stepH ((outN h.H:Int)-1)).phase:=by rw[←hz];rfl
  have zq:z.hdr.phase≠0:=by rcases f2 with f|f;exact absurd f (by omega);rw[zp];exact f
  exact fa_r (As':=[ro m]) (fun _ _=>rfl) ((Pm.ent (As1:=[ro m3]) pmt).trans ((ent_ro l3).trans fin)) ⟨by rw[bne_iff_ne.2 zq],rfl⟩
 ·have yp:y.hdr.phase=0:=by rw[←f1,←hy];rfl
  exact absurd yp (by assumption)
end Go.Proofs.YtcjmodomfilagaaGreat.E
