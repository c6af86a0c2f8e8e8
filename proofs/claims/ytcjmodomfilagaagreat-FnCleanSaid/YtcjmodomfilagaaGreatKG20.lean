/- A part of the proof. Conditions: none. -/
import Derived.Test.YtcjmodomfilagaaGreatKG19
set_option linter.unusedVariables false
set_option linter.unusedSimpArgs false
set_option maxHeartbeats 8000000
set_option maxRecDepth 100000
namespace Go.Proofs.YtcjmodomfilagaaGreat.E
open Go
open Classical
section
variable {pb pc ph:Nat} {ca:Option Addr} {cn cc:Nat} {m:Mem} {s1:DW} {B:Int}
theorem some_d(h1:DOk s1 B)(hc:Cod m ca cn)(hB:B≤500000000000000):FnA Tryz.prog 59 [ptr pb] (dwA pb pc ph ca cn cc m s1) (fun v As=>∃s',DOk s' (B+600)∧As=dwA pb pc ph ca cn cc m s'):=by
 refine fnA_of (fun h=>fn59 (by simp) h) ?_
 repeat' (first
  |(refine k_L ?_;first|(refine k_ad ?_;refine g_ad rfl rfl ?_)|refine a_p rfl ?_|(refine k_l ?_;refine g_l rfl ?_)|(refine g_c rfl (pick_d h1 hc (by omega) (by omega)) (fun v As' hq=>?_);obtain⟨k,s1,rfl,hk,h1,rfl⟩:=hq)|(refine g_c rfl (chain_d h1 hc (by omega) (by omega)) (fun v As' hq=>?_);obtain⟨s1,h1,rfl⟩:=hq)|(refine g_c rfl (weakly_d h1 hc (by omega)) (fun v As' hq=>?_);obtain⟨s1,h1,rfl⟩:=hq)|(refine g_c rfl (lastly_d h1 hc (by omega)) (fun v As' hq=>?_);obtain⟨s1,h1,rfl⟩:=hq)|(refine g_c rfl (ring_d h1 hc (by omega)) (fun v As' hq=>?_);obtain⟨s1,h1,rfl⟩:=hq)|(refine g_c rfl (work_d h1 hc (by omega)) (fun v As' hq=>?_);obtain⟨s1,h1,rfl⟩:=hq))
  |refine a_n ?_
  |(refine k_V ?_;first|refine v_seq ?_|refine v_reg ?_|refine v_bs ?_|(refine v_cd rfl (fun hb=>?_) (fun hb=>?_)<;>try(exfalso;omega)))
  |refine s_n ?_)
 all_goals try exact fa_n (fun _ _=>rfl) (Pm.ent pmt) ⟨s1,h1.up (by omega),rfl⟩
 refine v_blk ?_
 refine v_loop (fun q:Int×DW=>[(0,SV.v (ptr pb)),(3,SV.v (.int .i64 q.1))]) (fun q=>dwA pb pc ph ca cn cc m q.2) (fun k q=>(k:Int)=q.1∧(0≤q.1∧q.1≤9)∧DOk q.2 (B+400-32*q.1)) ⟨(2+k).toNat,(2+k,s1),⟨rfl,rfl,trivial⟩,Pm.ent pmt,show(((2+k).toNat:Nat):Int)=2+k by omega,by show 0≤2+k∧2+k≤9;omega,h1.up (by show _≤B+400-32*(2+k);omega)⟩ ?_
 rintro k ⟨i,s1⟩ ⟨hk0,hi,h1⟩
 dsimp only at hk0 hi h1⊢
 by_cases hin:i>0
 ·repeat' (first
   |(refine k_L ?_;first|(refine k_su ?_;refine g_su rfl rfl ?_)|refine a_p rfl ?_|(refine g_c rfl (act_d h1 hc (by omega)) (fun v As' hq=>?_);obtain⟨s1,h1,rfl⟩:=hq)|(refine g_c rfl (work_d h1 hc (by omega)) (fun v As' hq=>?_);obtain⟨s1,h1,rfl⟩:=hq))
   |refine a_n ?_
   |(refine k_V ?_;first|refine v_seq ?_|refine v_reg ?_|refine v_bs ?_|refine v_skip ?_|(refine v_cd rfl (fun hb=>?_) (fun hb=>?_)<;>try(exfalso;omega)))
   |refine s_n ?_)
  all_goals exact⟨(i-1).toNat,(i-1,s1),by omega,⟨rfl,rfl,trivial⟩,Pm.ent pmt,by show(((i-1).toNat:Nat):Int)=i-1;omega,⟨by show 0≤i-1;omega,by show i-1≤9;omega⟩,h1.up (by show _≤B+400-32*(i-1);omega)⟩
 ·repeat' (first
   |(refine k_L ?_;first|refine a_p rfl ?_|(refine g_c rfl (work_d h1 hc (by omega)) (fun v As' hq=>?_);obtain⟨s1,h1,rfl⟩:=hq))
   |refine a_n ?_
   |(refine k_V ?_;first|refine v_seq ?_|refine v_reg ?_|refine v_exit ?_|(refine v_cd rfl (fun hb=>?_) (fun hb=>?_)<;>try(exfalso;omega))))
  all_goals exact fa_n (fun _ _=>rfl) (Pm.ent pmt) ⟨s1,h1.up (by omega),rfl⟩
end
def Heap.new(room:Int):Heap:=⟨room,0,0,List.replicate 16 ⟨0,0,0⟩,[],0,0,0,[],0,0,0,0⟩
theorem new_heap_sound{room:Int}(h:1≤room∧room≤4000):Sound (Heap.new room) where
 r1:=⟨h,by simp[Heap.new],by simp[Heap.new];omega,by simp[Heap.new],by simp[Heap.new],by simp[Heap.new],by simp[Heap.new],by simp[Heap.new],by simp[Heap.new],by simp[Heap.new],by simp[Heap.new],by simp[Heap.new]⟩
 r2:=⟨fun i c hc=>by simp[Heap.new]at hc,fun i j c d hc=>by simp[Heap.new]at hc,fun i j c d hc=>by simp[Heap.new]at hc⟩
 r3:=⟨rfl,by show(0:Int)≤room;omega⟩
 r4:=⟨fun w hw=>by
  have:w=⟨0,0,0⟩:=List.eq_of_mem_replicate hw
  subst this
  exact⟨.inl ⟨rfl,rfl,rfl⟩,fun hk=>by simp at hk⟩,fun i c hc=>by simp[Heap.new]at hc,fun i c hc=>by simp[Heap.new]at hc⟩
 r5:=⟨fun hm=>by rcases hm with h|h<;>simp[Heap.new]at h,fun _=>⟨rfl,fun i c hc=>by simp[Heap.new]at hc⟩⟩
 r6:=by unfold R6;rw[if_pos (.inl rfl)];exact⟨rfl,rfl⟩
 r7:=fun hm=>by rcases hm with h|h<;>simp[Heap.new]at h
 r8:=fun h=>by simp[Heap.new]at h
theorem l1fresh_a{room:Int}{As:List Asr}(h:1≤room∧room≤4000):FnA Tryz.prog 92 [.int .i64 room] As (fun v As'=>∃a z,v=ptr a∧As'=hp a z++As∧z.H=Heap.new room):=by
 refine fnA_of (fun h=>fn92 (by simp) h) ?_
 repeat' (first
  |(refine k_L ?_;first|refine a_p rfl ?_|(refine a_mk (f:=wv) (n:=16) (k:=16) ⟨0,0,0⟩ wv_len rfl rfl rfl (by omega) (by omega) (fun g hg=>?_))|(refine a_nw rfl rfl (fun b=>?_)))
  |refine a_n ?_
  |(refine k_V ?_;first|refine v_seq ?_|refine v_reg ?_|refine v_ret ?_))
 refine fa_r (As':=hp b (⟨room,0,0,List.replicate 16 ⟨0,0,0⟩,[],0,0,0,[],0,0,0,0,g,⟨none,0⟩,⟨none,0⟩⟩:HX)++As) (fun _ _=>rfl) ?_ ⟨b,_,rfl,rfl,rfl⟩
 refine Ent.trans (ent_new (f:=iv) (size:=1)) ?_
 refine Ent.trans (ent_new (f:=csv) (size:=8)) ?_
 refine Ent.trans (cl_nil (d:=⟨none,0⟩)) ?_
 exact ent_of fun m hm=>star_perm ((List.perm_append_comm (l₁:=[clA ⟨none,0⟩ [],slA 1 iv ⟨none,0⟩ []]) (l₂:=[_,_])).append_right As) hm
section
variable {pb pc ph:Nat} {ca:Option Addr} {cn cc:Nat} {m:Mem} {s1:DW} {B:Int}
theorem begin_d(h1:DOk s1 B)(hp0:s1.x.H.phase=0):FnA Tryz.prog 60 [ptr ph] (dwA pb pc ph ca cn cc m s1) (fun v As=>∃s',DOk s' B∧s'.x.H.phase≠0∧As=dwA pb pc ph ca cn cc m s'):=
 (l3begin_a (a:=ph) (x:=s1.x)).part pmt fun v As' eA=>by
   subst eA
   refine⟨_,Pm.ent pmt,{s1 with x:=s1.x.ph 1 0},⟨?_,h1.t0,h1.tB,h1.lf,h1.al⟩,?_,rfl⟩
   ·show Sound (s1.x.ph 1 0).H
    rw[show(s1.x.ph 1 0).H=s1.x.H.enterH 1 from ph_H rfl]
    exact begin_sound h1.snd hp0
   ·show(1:Int)≠0
    decide
theorem unit_d(h1:DOk s1 B)(hp0:s1.x.H.phase≠0):FnA Tryz.prog 61 [ptr ph] (dwA pb pc ph ca cn cc m s1) (fun v As=>∃s',DOk s' B∧As=dwA pb pc ph ca cn cc m s'):=
 (l3unit_a (a:=ph) (x:=s1.x) h1.snd hp0).part pmt fun v As' ⟨z,eA,hz⟩=>by
   subst eA
   exact⟨_,Pm.ent pmt,{s1 with x:=z},⟨by show Sound z.H;rw[hz];exact unit_sound h1.snd,h1.t0,h1.tB,h1.lf,h1.al⟩,rfl⟩
theorem rooms_a{t s:Int}(hc:Cod m ca cn)(ht:0≤t∧t≤900000000000000):FnA Tryz.prog 57 [ptr pc] [cuA pc ca cn cc t s,ro m] (fun v As=>∃k t' s',v=.int .i64 k∧(1≤k∧k≤4000)∧(t≤t'∧t'≤t+4)∧As=[cuA pc ca cn cc t' s',ro m]):=by
 refine fnA_of (fun h=>fn57 (by simp) h) ?_
 repeat' (first
  |(refine k_L ?_;first|(refine k_ad ?_;refine g_ad rfl rfl ?_)|refine a_p rfl ?_|(refine g_c rfl (pick_a (t:=t) (s:=s) (n:=6) hc (by omega) (by omega)) (fun v As' hq=>?_);obtain⟨k,t1,s1,rfl,hk,ht1,rfl⟩:=hq)|(refine g_c rfl (pick_a (t:=t1) (s:=s1) hc (by omega) (by omega)) (fun v As' hq=>?_);obtain⟨k2,t2,s2,rfl,hk2,ht2,rfl⟩:=hq))
  |refine a_n ?_
  |(refine k_V ?_;first|refine v_seq ?_|refine v_reg ?_|refine v_bs ?_|refine v_ret ?_|refine v_skip ?_|(refine v_cd rfl (fun hb=>?_) (fun hb=>?_)<;>try(exfalso;omega)))
  |refine s_r ?_
  |refine b_r ?_)
 all_goals exact fa_r (fun _ _=>rfl) (Pm.ent pmt) ⟨_,_,_,rfl,by omega,by omega,rfl⟩
theorem l6begin_a{t s room:Int}(hr:1≤room∧room≤4000)(ht:0≤t∧t≤B):FnA Tryz.prog 56 [ptr pc,.int .i64 room] [cuA pc ca cn cc t s,ro m] (fun v As=>∃pb ph s',v=ptr pb∧DOk s' B∧As=dwA pb pc ph ca cn cc m s'):=by
 refine fnA_of (fun h=>fn56 (by simp) h) ?_
 repeat' (first
  |(refine k_L ?_;first|refine a_p rfl ?_|(refine g_c rfl (l1fresh_a (As:=[]) hr) (fun v As' hq=>?_);obtain⟨ph,z,rfl,rfl,hz⟩:=hq)|(refine a_nw rfl rfl (fun pb=>?_)))
  |refine a_n ?_
  |(refine k_V ?_;first|refine v_seq ?_|refine v_reg ?_|refine v_ret ?_))
 refine fa_r (As':=dwA pb pc ph ca cn cc m ⟨t,s,z,⟨none,0⟩,[],400⟩) (fun _ _=>rfl) ?_ ⟨pb,ph,_,rfl,⟨by show Sound z.H;rw[hz];exact new_heap_sound hr,ht.1,ht.2,by show(0:Int)≤400;omega,by simp⟩,rfl⟩
 refine Ent.trans (ent_new (f:=av) (size:=5)) ?_
 exact Pm.ent pmt
end
section
variable {pb pc ph:Nat} {ca:Option Addr} {cn cc:Nat} {m:Mem} {s1:DW} {B:Int}
theorem heap_a{t s:Int}(hc:Cod m ca cn)(ht:0≤t∧t≤100000000000000):FnA Tryz.prog 24 [ptr pc] [cuA pc ca cn cc t s,ro m] (fun v As=>∃pb ph s',v=ptr ph∧DOk s' (t+6000)∧As=dwA pb pc ph ca cn cc m s'):=by
 refine fnA_of (fun h=>fn24 (by simp) h) ?_
 refine v_seq (v_reg ?_)
 repeat' (first
  |(refine k_L ?_;refine a_p rfl ?_)
  |refine a_n ?_
  |refine s_n ?_)
 refine v_seq (v_reg ?_)
 repeat' (first
  |(refine k_L ?_;first|refine a_p rfl ?_|(refine g_c rfl (rooms_a (t:=t) (s:=s) hc (by omega)) (fun v As' hq=>?_);obtain⟨rm,t1,s1,rfl,hrm,ht1,rfl⟩:=hq)|(refine g_c rfl (l6begin_a (t:=t1) (s:=s1) (B:=t+4) hrm (by omega)) (fun v As' hq=>?_);obtain⟨pb,ph,s1,rfl,h1,rfl⟩:=hq))
  |refine a_n ?_
  |refine s_n ?_)
 refine v_seq (v_reg ?_)
 repeat' (first
  |(refine k_L ?_;first|refine a_p rfl ?_|(refine g_c rfl (pick_d h1 hc (by omega) (by omega)) (fun v As' hq=>?_);obtain⟨f,s1,rfl,hf,h1,rfl⟩:=hq))
  |refine a_n ?_
  |refine s_n ?_)
 repeat' (first
  |(refine k_L ?_;first|(refine k_ad ?_;refine g_ad rfl rfl ?_)|refine a_p rfl ?_|(refine g_c rfl (pick_d h1 hc (by omega) (by omega)) (fun v As' hq=>?_);obtain⟨k,s1,rfl,hk,h1,rfl⟩:=hq))
  |refine a_n ?_
  |(refine k_V ?_;first|refine v_seq ?_|refine v_reg ?_)
  |refine s_n ?_)
 --some acts
 refine v_via (fun S As=>∃s,DOk s (t+4900)∧leA [(0,SV.v (ptr pc)),(3,SV.v (ptr pb)),(4,SV.v (.int .i64 f))] S∧Ent As (dwA pb pc ph ca cn cc m s)) ?_ ?_
 ·refine v_blk ?_
  refine v_loop (fun q:Int×DW=>[(0,SV.v (ptr pc)),(3,SV.v (ptr pb)),(4,SV.v (.int .i64 f)),(5,SV.v (.int .i64 q.1))]) (fun q=>dwA pb pc ph ca cn cc m q.2) (fun k q=>(k:Int)=q.1∧(0≤q.1∧q.1≤8)∧DOk q.2 (t+4900-600*q.1)) ⟨(1+k).toNat,(1+k,s1),⟨rfl,rfl,rfl,rfl,trivial⟩,Pm.ent pmt,show(((1+k).toNat:Nat):Int)=1+k by omega,by show 0≤1+k∧1+k≤8;omega,h1.up (by show _≤t+4900-600*(1+k);omega)⟩ ?_
  rintro k ⟨i,s1⟩ ⟨hk0,hi,h1⟩
  dsimp only at hk0 hi h1⊢
  by_cases hin:i>0
  ·repeat' (first
    |(refine k_L ?_;first|(refine k_su ?_;refine g_su rfl rfl ?_)|refine a_p rfl ?_|(refine g_c rfl (some_d h1 hc (by omega)) (fun v As' hq=>?_);obtain⟨s1,h1,rfl⟩:=hq))
    |refine a_n ?_
    |(refine k_V ?_;first|refine v_seq ?_|refine v_reg ?_|refine v_br ?_|refine v_skip ?_|(refine v_cd rfl (fun hb=>?_) (fun hb=>?_)<;>try(exfalso;omega)))
    |refine s_n ?_)
   all_goals exact⟨(i-1).toNat,(i-1,s1),by omega,⟨rfl,rfl,rfl,rfl,trivial⟩,Pm.ent pmt,by show(((i-1).toNat:Nat):Int)=i-1;omega,⟨by show 0≤i-1;omega,by show i-1≤8;omega⟩,h1.up (by show _≤t+4900-600*(i-1);omega)⟩
  ·repeat' (first
    |(refine k_L ?_;refine a_p rfl ?_)
    |refine a_n ?_
    |(refine k_V ?_;first|refine v_seq ?_|refine v_reg ?_|refine v_exit ?_|(refine v_cd rfl (fun hb=>?_) (fun hb=>?_)<;>try(exfalso;omega)))
    |refine s_n ?_
    |refine s_e ?_
    |refine b_e ?_)
   exact⟨s1,h1.up (by omega),⟨rfl,rfl,rfl,trivial⟩,Pm.ent pmt⟩
 rintro S As ⟨s1,h1,hS,hE⟩
 refine VA.ent hE (v_weak _ hS ?_)
 clear hS hE S As
 refine v_seq (v_via (fun S As=>∃s,DOk s (t+4910)∧leA [(0,SV.v (ptr pc)),(3,SV.v (ptr pb)),(4,SV.v (.int .i64 f))] S∧Ent As (dwA pb pc ph ca cn cc m s)) ?_ ?_)
 ·repeat' (first
   |(refine k_L ?_;first|refine a_p rfl ?_|(refine k_l ?_;refine g_l rfl ?_)|(refine g_c rfl (pick_d h1 hc (by omega) (by omega)) (fun v As' hq=>?_);obtain⟨k,s1,rfl,hk,h1,rfl⟩:=hq))
   |refine a_n ?_
   |(refine k_V ?_;first|refine v_seq ?_|refine v_reg ?_|refine v_ret ?_|refine v_skip ?_|(refine v_cd rfl (fun hb=>?_) (fun hb=>?_)<;>try(exfalso;omega)))
   |refine s_n ?_
   |refine s_r ?_)
  ·exact fa_r (fun _ _=>rfl) (Pm.ent pmt) ⟨pb,ph,s1,rfl,h1.up (by omega),rfl⟩
  ·exact⟨s1,h1.up (by omega),⟨rfl,rfl,rfl,trivial⟩,Pm.ent pmt⟩
 rintro S As ⟨s1,h1,hS,hE⟩
 refine VA.ent hE (v_weak _ hS ?_)
 clear hS hE S As
 refine v_seq (v_via (fun S As=>∃s,DOk s (t+4910)∧leA [(0,SV.v (ptr pc)),(3,SV.v (ptr pb)),(4,SV.v (.int .i64 f))] S∧Ent As (dwA pb pc ph ca cn cc m s)) ?_ ?_)
 ·repeat' (first
   |(refine k_L ?_;first|refine a_p rfl ?_|(refine k_l ?_;refine g_l rfl ?_)|(refine g_c rfl (begin_d h1 hb) (fun v As' hq=>?_);obtain⟨s1,h1,hph,rfl⟩:=hq))
   |refine a_n ?_
   |(refine k_V ?_;first|refine v_seq ?_|refine v_reg ?_|refine v_skip ?_|(refine v_cd rfl (fun hb=>?_) (fun hb=>?_)<;>try(exfalso;omega)))
   |refine s_n ?_)
  all_goals exact⟨s1,h1.up (by omega),⟨rfl,rfl,rfl,trivial⟩,Pm.ent pmt⟩
 rintro S As ⟨s1,h1,hS,hE⟩
 refine VA.ent hE (v_weak _ hS ?_)
 clear hS hE S As
 refine v_seq (v_via (fun S As=>∃s,DOk s (t+4910)∧leA [(0,SV.v (ptr pc)),(3,SV.v (ptr pb)),(4,SV.v (.int .i64 f))] S∧Ent As (dwA pb pc ph ca cn cc m s)) ?_ ?_)
 ·refine v_seq (v_reg ?_)
  repeat' (first
   |(refine k_L ?_;refine a_p rfl ?_)
   |refine a_n ?_
   |refine s_n ?_)
  refine v_blk ?_
  refine v_loop (fun q:Int×DW=>[(0,SV.v (ptr pc)),(3,SV.v (ptr pb)),(4,SV.v (.int .i64 f)),(6,SV.v (.int .i64 q.1))]) (fun q=>dwA pb pc ph ca cn cc m q.2) (fun k q=>(k:Int)=20000-q.1∧(0≤q.1∧q.1≤20000)∧DOk q.2 (t+4910)) ⟨20000,(0,s1),⟨rfl,rfl,rfl,rfl,trivial⟩,Pm.ent pmt,by show((20000:Nat):Int)=20000-0;omega,by show(0:Int)≤0∧(0:Int)≤20000;omega,h1.up (by omega)⟩ ?_
  rintro k ⟨i,s1⟩ ⟨hk0,hi,h1⟩
  dsimp only at hk0 hi h1⊢
  repeat' (first
   |(refine k_L ?_;first|(refine k_ad ?_;refine g_ad rfl rfl ?_)|refine a_p rfl ?_|(refine k_g ?_;first|refine a_gy rfl rfl ?_|refine a_gn rfl rfl ?_|(refine a_gd rfl (fun hb=>?_) (fun hb=>?_)<;>try(exfalso;omega))|(refine a_gne rfl (fun hb=>?_) (fun hb=>?_)<;>try(exfalso;omega)))|(refine k_l ?_;refine g_l rfl ?_)|(refine g_c rfl (begin_d h1 hb) (fun v As' hq=>?_);obtain⟨s1,h1,hph,rfl⟩:=hq)|(refine g_c rfl (unit_d h1 hph) (fun v As' hq=>?_);obtain⟨s1,h1,rfl⟩:=hq)|(refine g_c rfl (unit_d h1 hb) (fun v As' hq=>?_);obtain⟨s1,h1,rfl⟩:=hq))
   |refine a_n ?_
   |(refine k_V ?_;first|refine v_seq ?_|refine v_reg ?_|refine v_bs ?_|refine v_exit ?_|refine v_skip ?_|refine v_cf rfl ?_|(refine v_cd rfl (fun hb=>?_) (fun hb=>?_)<;>try(exfalso;omega)))
   |refine s_n ?_
   |refine s_e ?_
   |refine b_e ?_)
  all_goals first
   |exact⟨s1,h1.up (by omega),⟨rfl,rfl,rfl,trivial⟩,Pm.ent pmt⟩
   |exact⟨(20000-(i+1)).toNat,(i+1,s1),by omega,⟨rfl,rfl,rfl,rfl,trivial⟩,Pm.ent pmt,by show(((20000-(i+1)).toNat:Nat):Int)=20000-(i+1);omega,⟨by show 0≤i+1;omega,by show i+1≤20000;omega⟩,h1⟩
 rintro S As ⟨s1,h1,hS,hE⟩
 refine VA.ent hE (v_weak _ hS ?_)
 clear hS hE S As
 repeat' (first
  |(refine k_L ?_;first|refine a_p rfl ?_|(refine g_c rfl (pick_d h1 hc (by omega) (by omega)) (fun v As' hq=>?_);obtain⟨k,s1,rfl,hk,h1,rfl⟩:=hq))
  |refine a_n ?_
  |(refine k_V ?_;first|refine v_seq ?_|refine v_reg ?_)
  |refine s_n ?_)
 refine v_blk ?_
 refine v_loop (fun q:Int×DW=>[(0,SV.v (ptr pc)),(3,SV.v (ptr pb)),(7,SV.v (.int .i64 q.1))]) (fun q=>dwA pb pc ph ca cn cc m q.2) (fun k q=>(k:Int)=q.1∧(0≤q.1∧q.1≤6)∧DOk q.2 (t+5200-30*q.1)) ⟨k.toNat,(k,s1),⟨rfl,rfl,rfl,trivial⟩,Pm.ent pmt,show((k.toNat:Nat):Int)=k by omega,by show 0≤k∧k≤6;omega,h1.up (by show _≤t+5200-30*k;omega)⟩ ?_
 rintro k ⟨i,s1⟩ ⟨hk0,hi,h1⟩
 dsimp only at hk0 hi h1⊢
 by_cases hin:i>0
 ·repeat' (first
   |(refine k_L ?_;first|(refine k_su ?_;refine g_su rfl rfl ?_)|refine a_p rfl ?_|(refine k_l ?_;refine g_l rfl ?_)|(refine g_c rfl (pick_d h1 hc (by omega) (by omega)) (fun v As' hq=>?_);obtain⟨k,s1,rfl,hk,h1,rfl⟩:=hq)|(refine g_c rfl (act_d h1 hc (by omega)) (fun v As' hq=>?_);obtain⟨s1,h1,rfl⟩:=hq)|(refine g_c rfl (unit_d h1 hb) (fun v As' hq=>?_);obtain⟨s1,h1,rfl⟩:=hq))
   |refine a_n ?_
   |(refine k_V ?_;first|refine v_seq ?_|refine v_reg ?_|refine v_bs ?_|refine v_skip ?_|(refine v_cd rfl (fun hb=>?_) (fun hb=>?_)<;>try(exfalso;omega))|(refine v_cn rfl (fun hb=>?_) (fun hb=>?_)<;>try(exfalso;omega)))
   |refine s_n ?_)
  all_goals exact⟨(i-1).toNat,(i-1,s1),by omega,⟨rfl,rfl,rfl,trivial⟩,Pm.ent pmt,by show(((i-1).toNat:Nat):Int)=i-1;omega,⟨by show 0≤i-1;omega,by show i-1≤6;omega⟩,h1.up (by show _≤t+5200-30*(i-1);omega)⟩
 ·repeat' (first
   |(refine k_L ?_;first|refine a_p rfl ?_|(refine k_l ?_;refine g_l rfl ?_))
   |refine a_n ?_
   |(refine k_V ?_;first|refine v_seq ?_|refine v_reg ?_|refine v_ret ?_|refine v_exit ?_|(refine v_cd rfl (fun hb=>?_) (fun hb=>?_)<;>try(exfalso;omega))))
  exact fa_r (fun _ _=>rfl) (Pm.ent pmt) ⟨pb,ph,s1,rfl,h1.up (by omega),rfl⟩
end
end Go.Proofs.YtcjmodomfilagaaGreat.E
namespace Go.Proofs.YtcjmodomfilagaaGreat.E
open Go
theorem r16:Tryz.f16.results.toList.mapM (trR Tryz.prog)=some [.tmp 4]:=by kernel_rfl
noncomputable def e34:Env:=⟨Tryz.prog,[],26,[(6,9)]⟩
abbrev q5(a0:Nat)(a1:Nat)(a2:Nat)(a3:Nat):I:=⟨some a0,some (a1,false),.bin .neq (.tmp a2) (.tmp a3)⟩
abbrev qw(a0:Nat)(a1:Int)(a2:Int)(a3:Int)(a4:Nat)(a5:Nat)(a6:Nat)(a7:Nat)(a8:Int)(a9:Int)(a10:Int)(a11:Nat)(a12:Nat)(a13:Int)(a14:Int)(a15:Int)(a16:Int)(a17:Int):I:=⟨some a0,none,.alloc true [.int .i64 a1,.int .i64 a2,.int .i64 a3,.slice none a4 a5,.slice none a6 a7,.int .i64 a8,.int .i64 a9,.int .i64 a10,.slice none a11 a12,.int .i64 a13,.int .i64 a14,.int .i64 a15,.int .i64 a16,.int .i64 a17]⟩
noncomputable def c34:C:=
 .seq (.reg [zJ 4]) (.seq (.seq (.reg [z3 6 0,zG 7 6,z3 8 1,zG 9 8,zz 10 7 9]) (.cond (.tmp 10) (.seq (.reg [zJ 4]) .ret) .skip)) (.seq (.seq (.reg [z3 11 0,zG 12 11,zD 13 0]) (.block 0 (.loop (.seq (.reg [zQ 14 13 12]) (.seq (.cond (.tmp 14) .skip (.exit 0)) (.seq (.block 1 (.seq (.reg [z3 15 13,z3 5 15]) (.seq (.dreg 9 [z3 16 0,z3 17 5,z9 18 6 16 17,zA 19 6 18,z3 20 1,z3 21 5,z9 22 6 20
 21,zA 23 6 22,⟨some 24,none,.eqA true 6 (.tmp 19) (.tmp 23)⟩]) (.cond (.tmp 24) (.seq (.reg [zJ 4]) .ret) .skip)))) (.reg [zO 25 13 1,z3 13 25]))))))) (.seq (.reg [zY 4]) .ret)))
theorem t34:Tryz.f34.body.bind (trC e34)=some c34:=by kernel_rfl
theorem r34:Tryz.f34.results.toList.mapM (trR Tryz.prog)=some [.tmp 4]:=by kernel_rfl
theorem fn34{args:List Value}{M:Mem}{post:Value→Mem→Prop}(hl:args.length≤26)(h:VC e34 c34 (fnQ [.tmp 4] post) (initS args 26) M):Fn Tryz.prog 34 args M post:=
 Fn.of' (E:=e34) Tryz.func34 t34 rfl r34 mixed hl h
noncomputable def e33:Env:=⟨Tryz.prog,[],26,[(6,9)]⟩
noncomputable def c33:C:=
 .seq (.reg [zJ 4]) (.seq (.seq (.reg [z3 6 0,zG 7 6,z3 8 1,zG 9 8,zz 10 7 9]) (.cond (.tmp 10) (.seq (.reg [zJ 4]) .ret) .skip)) (.seq (.seq (.reg [z3 11 0,zG 12 11,zD 13 0]) (.block 0 (.loop (.seq (.reg [zQ 14 13 12]) (.seq (.cond (.tmp 14) .skip (.exit 0)) (.seq (.block 1 (.seq (.reg [z3 15 13,z3 5 15]) (.seq (.dreg 9 [z3 16 0,z3 17 5,z9 18 3 16 17,zA 19 3 18,z3 20 1,z3 21 5,z9 22 3 20
 21,zA 23 3 22,⟨some 24,none,.eqA true 3 (.tmp 19) (.tmp 23)⟩]) (.cond (.tmp 24) (.seq (.reg [zJ 4]) .ret) .skip)))) (.reg [zO 25 13 1,z3 13 25]))))))) (.seq (.reg [zY 4]) .ret)))
theorem t33:Tryz.f33.body.bind (trC e33)=some c33:=by kernel_rfl
theorem r33:Tryz.f33.results.toList.mapM (trR Tryz.prog)=some [.tmp 4]:=by kernel_rfl
theorem fn33{args:List Value}{M:Mem}{post:Value→Mem→Prop}(hl:args.length≤26)(h:VC e33 c33 (fnQ [.tmp 4] post) (initS args 26) M):Fn Tryz.prog 33 args M post:=
 Fn.of' (E:=e33) Tryz.func33 t33 rfl r33 mixed hl h
noncomputable def e35:Env:=⟨Tryz.prog,[],26,[(6,9)]⟩
noncomputable def c35:C:=
 .seq (.reg [zJ 4]) (.seq (.seq (.reg [z3 6 0,zG 7 6,z3 8 1,zG 9 8,zz 10 7 9]) (.cond (.tmp 10) (.seq (.reg [zJ 4]) .ret) .skip)) (.seq (.seq (.reg [z3 11 0,zG 12 11,zD 13 0]) (.block 0 (.loop (.seq (.reg [zQ 14 13 12]) (.seq (.cond (.tmp 14) .skip (.exit 0)) (.seq (.block 1 (.seq (.reg [z3 15 13,z3 5 15]) (.seq (.dreg 9 [z3 16 0,z3 17 5,z9 18 1 16 17,z5 19 1 18,z3 20 1,z3 21 5,z9 22 1 20
 21,z5 23 1 22,zz 24 19 23]) (.cond (.tmp 24) (.seq (.reg [zJ 4]) .ret) .skip)))) (.reg [zO 25 13 1,z3 13 25]))))))) (.seq (.reg [zY 4]) .ret)))
theorem t35:Tryz.f35.body.bind (trC e35)=some c35:=by kernel_rfl
theorem r35:Tryz.f35.results.toList.mapM (trR Tryz.prog)=some [.tmp 4]:=by kernel_rfl
theorem fn35{args:List Value}{M:Mem}{post:Value→Mem→Prop}(hl:args.length≤26)(h:VC e35 c35 (fnQ [.tmp 4] post) (initS args 26) M):Fn Tryz.prog 35 args M post:=
 Fn.of' (E:=e35) Tryz.func35 t35 rfl r35 mixed hl h
noncomputable def e11:Env:=⟨Tryz.prog,[2,3,6,7],170,[]⟩
noncomputable def c11:C:=
 .seq (.reg [za 2 0,za 3 1,zJ 4]) (.seq (.seq (.reg [z4 8 0 2,z5 9 1 8,z4 10 0 3,z5 11 1 10,zz 12 9 11,z3 13 12,zF 14 13 1 2,zK 15 13 1 14,zF 16 13 1 3,zK 17 13 1 16,q5 18 13 15 17,zN 19 13 18,z3 20 19,zF 21 20 2 2,zK 22 20 1 21,zF 23 20 2 3,zK 24 20 1 23,q5 25 20 22 24,zN 26 20 25,z3 27 26,zF 28 27 3 2,zK 29 27 1 28,zF 30 27 3 3,zK 31 27 1 30,qE 32 27 33 29 31,zf 33 27 32,zN 34 27 33,z3 35 34,
 zF 36 35 4 2,zK 37 35 1 36,q0 38 35 37,zF 39 35 4 3,zK 40 35 1 39,q0 41 35 40,q5 42 35 38 41,zN 43 35 42]) (.cond (.tmp 43) (.seq (.reg [zJ 4]) .ret) .skip)) (.seq (.seq (.reg [z4 44 4 2,z5 45 1 44,zG 46 45,zD 47 0]) (.block 0 (.loop (.seq (.reg [zQ 48 47 46]) (.seq (.cond (.tmp 48) .skip (.exit 0)) (.seq (.block 1 (.seq (.reg [z3 49 47,z3 5 49]) (.seq (.reg [z4 50 4 2,z5 51 1 50,z3 52 5,z9
 53 8 51 52,zA 54 8 53,zX 6 0 0 0 0 0 0 0 0 0,z8 8 6 54]) (.seq (.reg [z4 55 4 3,z5 56 1 55,z3 57 5,z9 58 8 56 57,zA 59 8 58,zX 7 0 0 0 0 0 0 0 0 0,z8 8 7 59]) (.seq (.reg [z4 60 0 6,z5 61 1 60,z4 62 0 7,z5 63 1 62,zz 64 61 63,z3 65 64,zF 66 65 1 6,zK 67 65 1 66,zF 68 65 1 7,zK 69 65 1 68,q5 70 65 67 69,zN 71 65 70,z3 72 71,zF 73 72 2 6,zK 74 72 1 73,zF 75 72 2 7,zK 76 72 1 75,q5 77 72 74 76,zN
 78 72 77,z3 79 78,zF 80 79 3 6,zK 81 79 1 80,zF 82 79 3 7,zK 83 79 1 82,q5 84 79 81 83,zN 85 79 84,z3 86 85,zF 87 86 4 6,zK 88 86 1 87,zF 89 86 4 7,zK 90 86 1 89,q5 91 86 88 90,zN 92 86 91,z3 93 92,zF 94 93 5 6,zK 95 93 1 94,zF 96 93 5 7,zK 97 93 1 96,q5 98 93 95 97,zN 99 93 98,z3 100 99,zF 101 100 6 6,zK 102 100 1 101,zF 103 100 6 7,zK 104 100 1 103,q5 105 100 102 104,zN 106 100 105,z3 107 106,
 zF 108 107 7 6,zK 109 107 1 108,zF 110 107 7 7,zK 111 107 1 110,qE 112 107 34 109 111,zf 113 107 112,zN 114 107 113]) (.cond (.tmp 114) (.seq (.reg [zJ 4]) .ret) .skip)))))) (.reg [zO 115 47 1,z3 47 115]))))))) (.seq (.reg [z4 116 5 2,z5 117 1 116,z4 118 5 3,z5 119 1 118,zy 120 117 119,z3 121 120,zE 122 121 6 2,zC 123 121 1 122,zE 124 121 6 3,zC 125 121 1 124,qA 126 121 123 125,zL 127 121 126,
 z3 128 127,zE 129 128 7 2,zC 130 128 1 129,zE 131 128 7 3,zC 132 128 1 131,qA 133 128 130 132,zL 134 128 133,z3 135 134,zE 136 135 8 2,zC 137 135 1 136,zE 138 135 8 3,zC 139 135 1 138,qk 140 135 35 137 139,zL 141 135 140,z3 142 141,zE 143 142 9 2,zC 144 142 1 143,zE 145 142 9 3,zC 146 142 1 145,qA 147 142 144 146,zL 148 142 147,z3 149 148,zE 150 149 10 2,zC 151 149 1 150,zE 152 149 10 3,zC 153
 149 1 152,qA 154 149 151 153,zL 155 149 154,z3 156 155,zE 157 156 11 2,zC 158 156 1 157,zE 159 156 11 3,zC 160 156 1 159,qA 161 156 158 160,zL 162 156 161,z3 163 162,zE 164 163 12 2,zC 165 163 1 164,zE 166 163 12 3,zC 167 163 1 166,qA 168 163 165 167,zL 169 163 168,z3 4 169]) .ret)))
theorem t11:Tryz.f11.body.bind (trC e11)=some c11:=by kernel_rfl
theorem r11:Tryz.f11.results.toList.mapM (trR Tryz.prog)=some [.tmp 4]:=by kernel_rfl
theorem fn11{args:List Value}{M:Mem}{post:Value→Mem→Prop}(hl:args.length≤170)(h:VC e11 c11 (fnQ [.tmp 4] post) (initS args 170) M):Fn Tryz.prog 11 args M post:=
 Fn.of' (E:=e11) Tryz.func11 t11 rfl r11 mixed hl h
noncomputable def e3:Env:=⟨Tryz.prog,[3,7,8],129,[(18,23)]⟩
noncomputable def c3:C:=
 .seq (.reg [zJ 2]) (.seq (.seq (.reg [z3 10 0,zG 11 10,zq 12 11 1048576]) (.cond (.tmp 12) (.seq (.reg [zY 2]) .ret) .skip)) (.seq (.reg [z3 13 0,zM 14 6 13,qW 3 0 0 0 0 0 0 0 0 0 0 0 0 0 0 0 0,z8 13 3 14]) (.seq (.reg [zA 15 13 3,zM 16 7 15,z3 4 16]) (.seq (.reg [zA 17 13 3,zM 18 8 17,z3 5 18]) (.seq (.seq (.reg [z3 19 4,zG 20 19,z4 21 4 3,z5 22 1 21,zG 23 22,zz 24 20 23,z3 25 24,zP 26 25
 5,q0 27 25 26,zF 28 25 4 3,zK 29 25 1 28,q0 30 25 29,q5 31 25 27 30,zN 32 25 31]) (.cond (.tmp 32) (.seq (.reg [zJ 2]) .ret) .skip)) (.seq (.seq (.reg [z3 33 4,zG 34 33,zD 35 0]) (.block 0 (.loop (.seq (.reg [zQ 36 35 34]) (.seq (.cond (.tmp 36) .skip (.exit 0)) (.seq (.block 1 (.seq (.reg [z3 37 35,z3 6 37]) (.seq (.reg [z3 38 4,z3 39 6,z9 40 1 38 39,z5 41 1 40,z3 42 41,zI 43 42 5,zI 44 42
 6,zk 45 42 1 43 44,zC 46 42 1 45,qH 47 42 46,zL 48 42 47]) (.cond (.tmp 48) (.seq (.reg [zJ 2]) .ret) .skip)))) (.reg [zO 49 35 1,z3 35 49]))))))) (.seq (.reg [zA 50 13 3,zM 51 9 50,⟨some 7,none,.alloc true [.int .i64 0,.int .i64 0,.int .i64 0,.slice none 0 0,.slice none 0 0,.int .i64 0,.int .i64 0,.int .i64 0,.slice none 0 0,.int .i64 0,.int .i64 0,.int .i64 0,.int .i64 0,.int .i64 0,.int
 .i64 0]⟩,z8 15 7 51]) (.seq (.reg [zA 52 13 3,zM 53 10 52,⟨some 8,none,.alloc true [.int .i64 0,.int .i64 0,.int .i64 0,.slice none 0 0,.slice none 0 0,.int .i64 0,.int .i64 0,.int .i64 0,.slice none 0 0,.int .i64 0,.int .i64 0,.int .i64 0,.int .i64 0,.int .i64 0,.int .i64 0]⟩,z8 15 8 53]) (.seq (.seq (.reg [z4 54 13 7,z5 55 1 54,z4 56 13 8,z5 57 1 56,zz 58 55 57,z3 59 58,zF 60 59 14 7,zK 61 59
 1 60,zF 62 59 14 8,zK 63 59 1 62,q5 64 59 61 63,zN 65 59 64,z3 66 65,zF 67 66 0 7,q4 68 66 13 67,zF 69 66 0 8,q4 70 66 13 69,qE 71 66 11 68 70,zf 72 66 71,zN 73 66 72,z3 74 73,zF 75 74 0 7,zF 76 74 1 75,zK 77 74 1 76,zF 78 74 1 3,zK 79 74 1 78,zF 80 74 13 7,zK 81 74 1 80,⟨some 82,some (74,false),.bin .sub (.tmp 79) (.tmp 81)⟩,q5 83 74 77 82,zN 84 74 83]) (.cond (.tmp 84) (.seq (.reg [zJ 2])
 .ret) .skip)) (.seq (.seq (.dreg 23 [z4 85 14 7,z5 86 1 85,z7 87 86 0,z3 88 87,zE 89 88 0 7,qg 90 88 13 89,⟨some 91,some (88,true),.qcall 12 [.tmp 90]⟩,qg 92 88 13 3,⟨some 93,some (88,true),.qcall 12 [.tmp 92]⟩,zE 94 88 13 7,zC 95 88 1 94,⟨some 96,some (88,true),.bin .sub (.tmp 93) (.tmp 95)⟩,⟨some 97,some (88,true),.bin .gtr (.tmp 91) (.tmp 96)⟩,zL 98 88 97,z3 99 98,zF 100 99 0 7,q4 101 99 13
 100,⟨some 102,some (99,false),.qcall 13 [.tmp 101]⟩,zF 103 99 0 7,q4 104 99 13 103,⟨some 105,some (99,false),.qcall 14 [.tmp 104]⟩,q5 106 99 102 105,zN 107 99 106]) (.cond (.tmp 107) (.seq (.reg [zJ 2]) .ret) .skip)) (.seq (.seq (.reg [z4 108 1 3,z5 109 1 108,z3 9 109]) (.block 2 (.loop (.seq (.seq (.reg [z3 110 9,qq 111 110 0]) (.cond (.tmp 111) .skip (.exit 2))) (.seq (.block 3 (.seq (.seq
 (.reg [z4 114 13 7,z5 115 1 114,z7 116 115 0,z3 117 116,zE 118 117 14 7,zC 119 117 1 118,zV 120 117 119 0,zL 121 117 120]) (.cond (.tmp 121) (.seq (.reg [z4 122 0 7,zA 123 13 122,zM 124 15 123,z7 125 124 0,z3 2 125]) .ret) .skip)) (.reg [z4 126 0 7,zA 127 13 126,zM 128 9 127,z8 15 7 128]))) (.reg [z3 112 9,zc 113 112 1,z3 9 113])))))) (.seq (.reg [zJ 2]) .ret))))))))))))
theorem r3:Tryz.f3.results.toList.mapM (trR Tryz.prog)=some [.tmp 2]:=by kernel_rfl
noncomputable def e4:Env:=⟨Tryz.prog,[5,8,9,10,11],137,[]⟩
noncomputable def c4:C:=
 .seq (.reg [zJ 4]) (.seq (.seq (.reg [z3 13 0,zG 14 13,zq 15 14 1048576,z3 16 15,zP 17 16 1,q0 18 16 17,qY 19 16 18 1048576,zN 20 16 19]) (.cond (.tmp 20) (.seq (.reg [zY 4]) .ret) .skip)) (.seq (.reg [z3 21 0,zM 22 6 21,qW 5 0 0 0 0 0 0 0 0 0 0 0 0 0 0 0 0,z8 13 5 22]) (.seq (.reg [z3 23 1,zR 24 16 23 0,z3 6 24]) (.seq (.reg [z3 25 1,zR 26 16 25 1,z3 7 26]) (.seq (.reg [zA 27 13 5,z3 28 6,
 zU 29 17 27 28,qw 8 0 0 0 0 0 0 0 0 0 0 0 0 0 0 0 0 0,z8 14 8 29]) (.seq (.reg [zA 30 13 5,z3 31 6,zU 32 18 30 31,qw 9 0 0 0 0 0 0 0 0 0 0 0 0 0 0 0 0 0,z8 14 9 32]) (.seq (.seq (.reg [z4 33 13 8,z5 34 1 33,z4 35 13 9,z5 36 1 35,zz 37 34 36,z3 38 37,zF 39 38 0 8,q4 40 38 13 39,zF 41 38 0 9,q4 42 38 13 41,qE 43 38 11 40 42,zf 44 38 43,zN 45 38 44,z3 46 45,zF 47 46 13 8,zK 48 46 1 47,zP 49 46 6,
 qo 50 46 48 49,zN 51 46 50,z3 52 51,zF 53 52 13 8,zK 54 52 1 53,zP 55 52 6,qZ 56 52 54 55,zP 57 52 56,zE 58 57 0 8,zE 59 57 5 58,zC 60 57 1 59,q9 61 57 60 0,qC 62 52 57 61,zN 63 52 62]) (.cond (.tmp 63) (.seq (.reg [zJ 4]) .ret) .skip)) (.seq (.seq (.reg [z4 64 13 8,z5 65 1 64,z3 66 6,zy 67 65 66,z3 68 67,zE 69 68 0 8,zE 70 68 5 69,zC 71 68 1 70,q9 72 68 71 0,zL 73 68 72]) (.cond (.tmp 73)
 (.seq (.reg [z4 74 0 8,zA 75 13 74,z3 76 7,zU 77 17 75 76,qw 10 0 0 0 0 0 0 0 0 0 0 0 0 0 0 0 0 0,z8 14 10 77]) (.seq (.reg [zA 78 13 5,z3 79 6,z3 80 7,q8 81 79 80,zU 82 17 78 81,qw 11 0 0 0 0 0 0 0 0 0 0 0 0 0 0 0 0 0,z8 14 11 82]) (.seq (.reg [z4 83 0 10,zA 84 13 83,z4 85 0 11,zA 86 13 85,zU 87 11 84 86,zW 88 87,z3 89 88,zF 90 89 13 11,zK 91 89 1 90,zP 92 89 6,zF 93 89 13 10,zK 94 89 1 93,
 ⟨some 95,some (89,false),.bin .add (.tmp 92) (.tmp 94)⟩,q5 96 89 91 95,zN 97 89 96]) (.cond (.tmp 97) (.seq (.reg [zJ 4]) .ret) .skip)))) .skip)) (.seq (.reg [zA 98 13 5,zM 99 19 98,z3 12 99]) (.seq (.seq (.reg [z3 100 12,zA 101 13 5,zM 102 20 101,zz 103 100 102,z3 104 103,zP 105 104 12,zx 106 104 105 0,zF 107 104 5 5,zK 108 104 1 107,zx 109 104 108 0,⟨some 110,some (104,false),.eqB true (.tmp
 106) (.tmp 109)⟩,zN 111 104 110]) (.cond (.tmp 111) (.seq (.reg [zJ 4]) .ret) .skip)) (.seq (.seq (.reg [z3 112 12,z7 113 112 0,z3 114 113,zP 115 114 12,qY 116 114 115 100000,zN 117 114 116]) (.cond (.tmp 117) (.seq (.reg [zY 4]) .ret) .skip)) (.seq (.reg [zA 118 13 5,z3 119 12,zU 120 17 118 119,⟨some 121,none,.field false 0 13 (.tmp 120)⟩,⟨some 122,none,.field true 5 1 (.tmp 121)⟩,z7 123 122
 0,z3 124 123,zI 125 124 12,zV 126 124 125 1,zI 127 124 126,q4 128 127 13 5,zP 129 127 12,⟨some 130,some (127,false),.bin .sub (.tmp 129) (.const (.int .i64 1))⟩,qE 131 127 17 128 130,⟨some 132,some (127,false),.field false 0 13 (.tmp 131)⟩,⟨some 133,some (127,false),.field true 5 1 (.tmp 132)⟩,zo 134 127 133 0,qI 135 124 127 134,zL 136 124 135,z3 4 136]) .ret))))))))))))
theorem r4:Tryz.f4.results.toList.mapM (trR Tryz.prog)=some [.tmp 4]:=by kernel_rfl
end Go.Proofs.YtcjmodomfilagaaGreat.E
namespace Go.Proofs.YtcjmodomfilagaaGreat.E
open Go
open Classical
theorem wWords_t{m:Mem}{d e:D}{xs:List Word}(hx:Has m [slA 3 wv d xs])(hy:Has m [slA 3 wv e xs]):Qt Tryz.prog 33 [.slice d.a xs.length d.cap,.slice e.a xs.length e.cap] m (.bool true):=by
 have hbd:xs.length≤140737488355328:=by obtain⟨a,l,s⟩:=hx;exact(kn_h bd_sl).out a s
 refine qt_of (fnA_of (fun h=>fn33 (by simp) h) ?_)
 repeat' (first
  |(refine k_L ?_;refine a_p rfl ?_)
  |refine a_n ?_
  |(refine k_V ?_;first|refine v_seq ?_|refine v_reg ?_|refine v_skip ?_|(refine v_cn rfl (fun hb=>?_) (fun hb=>?_)<;>try(exfalso;omega)))
  |refine s_n ?_)
 refine g_range xs.length (fun _:Unit=>[(0,.v (.slice d.a xs.length d.cap)),(1,.v (.slice e.a xs.length e.cap))]) (fun _=>[ro m]) (fun _ _=>True) () trivial (fun i _ hi _=>?_) (fun _ _=>?_)
 ·obtain⟨w,gw⟩:∃w,xs[i]?=some w:=⟨_,List.getElem?_eq_getElem hi⟩
  repeat' (first
   |(refine k_L ?_;first|refine a_p rfl ?_|(refine k_i ?_;refine g_i rfl rfl ?_)|(refine k_ls ?_;refine g_ls rfl ?_)|(refine a_i (e:=d) rfl rfl (kn_h (kn_ro hx (kn_h (bs_sl gw)))) (by omega) ?_)|(refine a_ls rfl (rs_h (rs_ro hx (rs_h (rs_sl (fun _=>rfl) gw)))) ?_))
   |refine a_n ?_
   |(refine k_V ?_;first|refine v_rv ?_|refine v_seq ?_|refine v_reg ?_|refine v_dreg ?_|refine v_skip ?_|(refine v_cond _ rfl (fun hb=>?_) (fun hb=>?_)))
   |refine s_r ?_
   |refine r_rt ?_)
  all_goals first
   |exact r_nx () trivial
   |(exfalso;simp at hb;done)
 ·repeat' (first
   |refine a_n ?_
   |(refine k_V ?_;refine v_rv ?_))
  exact fa_q (by simp) (fun _ _=>rfl) rfl
theorem wPairs_t{m:Mem}{d e:D}{xs:List Pair}(hx:Has m [slA 6 pv d xs])(hy:Has m [slA 6 pv e xs]):Qt Tryz.prog 34 [.slice d.a xs.length d.cap,.slice e.a xs.length e.cap] m (.bool true):=by
 have hbd:xs.length≤140737488355328:=by obtain⟨a,l,s⟩:=hx;exact(kn_h bd_sl).out a s
 refine qt_of (fnA_of (fun h=>fn34 (by simp) h) ?_)
 repeat' (first
  |(refine k_L ?_;refine a_p rfl ?_)
  |refine a_n ?_
  |(refine k_V ?_;first|refine v_seq ?_|refine v_reg ?_|refine v_skip ?_|(refine v_cn rfl (fun hb=>?_) (fun hb=>?_)<;>try(exfalso;omega)))
  |refine s_n ?_)
 refine g_range xs.length (fun _:Unit=>[(0,.v (.slice d.a xs.length d.cap)),(1,.v (.slice e.a xs.length e.cap))]) (fun _=>[ro m]) (fun _ _=>True) () trivial (fun i _ hi _=>?_) (fun _ _=>?_)
 ·obtain⟨w,gw⟩:∃w,xs[i]?=some w:=⟨_,List.getElem?_eq_getElem hi⟩
  repeat' (first
   |(refine k_L ?_;first|refine a_p rfl ?_|(refine k_i ?_;refine g_i rfl rfl ?_)|(refine a_i (e:=d) rfl rfl (kn_h (kn_ro hx (kn_h (bs_sl gw)))) (by omega) ?_)|(refine a_ls rfl (rs_h (rs_ro hx (rs_h (rs_sl (fun _=>rfl) gw)))) ?_)|(refine a_ls rfl (rs_h (rs_ro hy (rs_h (rs_sl (fun _=>rfl) gw)))) ?_))
   |refine a_n ?_
   |(refine k_V ?_;first|refine v_rv ?_|refine v_seq ?_|refine v_reg ?_|refine v_dreg ?_|refine v_skip ?_|(refine v_cond _ rfl (fun hb=>?_) (fun hb=>?_)))
   |refine s_r ?_
   |refine r_rt ?_)
  all_goals first
   |exact r_nx () trivial
   |(exfalso;simp at hb;done)
 ·repeat' (first
   |refine a_n ?_
   |(refine k_V ?_;refine v_rv ?_))
  exact fa_q (by simp) (fun _ _=>rfl) rfl
theorem wInts_t{m:Mem}{d e:D}{xs:List Int}(hx:Has m [slA 1 iv d xs])(hy:Has m [slA 1 iv e xs]):Qt Tryz.prog 35 [.slice d.a xs.length d.cap,.slice e.a xs.length e.cap] m (.bool true):=by
 have hbd:xs.length≤140737488355328:=by obtain⟨a,l,s⟩:=hx;exact(kn_h bd_sl).out a s
 refine qt_of (fnA_of (fun h=>fn35 (by simp) h) ?_)
 repeat' (first
  |(refine k_L ?_;refine a_p rfl ?_)
  |refine a_n ?_
  |(refine k_V ?_;first|refine v_seq ?_|refine v_reg ?_|refine v_skip ?_|(refine v_cn rfl (fun hb=>?_) (fun hb=>?_)<;>try(exfalso;omega)))
  |refine s_n ?_)
 refine g_range xs.length (fun _:Unit=>[(0,.v (.slice d.a xs.length d.cap)),(1,.v (.slice e.a xs.length e.cap))]) (fun _=>[ro m]) (fun _ _=>True) () trivial (fun i _ hi _=>?_) (fun _ _=>?_)
 ·obtain⟨w,gw⟩:∃w,xs[i]?=some w:=⟨_,List.getElem?_eq_getElem hi⟩
  repeat' (first
   |(refine k_L ?_;first|refine a_p rfl ?_|(refine k_l ?_;refine g_l rfl ?_)|(refine k_i ?_;refine g_i rfl rfl ?_)|(refine a_i (e:=d) rfl rfl (kn_h (kn_ro hx (kn_h (bs_sl gw)))) (by omega) ?_)|(refine a_l rfl (rd_h (rd_ro hx (rd_h (rd_sl (j:=0) (fun _=>rfl) gw rfl)))) ?_))
   |refine a_n ?_
   |(refine k_V ?_;first|refine v_seq ?_|refine v_reg ?_|refine v_dreg ?_|refine v_skip ?_|(refine v_cn rfl (fun hb=>?_) (fun hb=>?_)<;>try(exfalso;omega))))
  all_goals first
   |exact r_nx () trivial
   |(exfalso;simp at hb;done)
 ·repeat' (first
   |refine a_n ?_
   |(refine k_V ?_;refine v_rv ?_))
  exact fa_q (by simp) (fun _ _=>rfl) rfl
theorem has_1{m:Mem}{A B C:Asr}(h:Has m [A,B,C]):Has m [A]∧Has m [B]∧Has m [C]:=by
 refine⟨h.ent (Pm.ent pmt),h.ent (Pm.ent pmt),h.ent (Pm.ent pmt)⟩
theorem has_pr{m:Mem}{cd:D}{ys:List CS}{i:Nat}{y:CS}(h:Has m [clA cd ys])(hi:ys[i]?=some y):Has m [slA 6 pv y.d y.c.pairs]:=by
 refine h.ent ((cl_split hi).trans ?_)
 exact Pm.ent pmt
theorem wHeap_t{m:Mem}{x y:HX}(hx:Has m x.body)(hy:Has m y.body)(e:x.H=y.H):Qt Tryz.prog 11 [x.v,y.v] m (.bool true):=by
 obtain⟨x1,x2,x3⟩:=has_1 hx
 obtain⟨y1,y2,y3⟩:=has_1 hy
 have er:y.regs=x.regs:=(congrArg Heap.regs e).symm
 have eg:y.gray=x.gray:=(congrArg Heap.gray e).symm
 have ec:x.H.cells=y.H.cells:=congrArg Heap.cells e
 have el:x.xs.length=y.xs.length:=by have:=congrArg List.length ec;rw[x.len,y.len]at this;exact this
 rw[er]at y1
 rw[eg]at y3
 have a1:x.hdr.room=y.hdr.room:=congrArg Heap.room e
 have a2:x.hdr.used=y.hdr.used:=congrArg Heap.used e
 have a3:x.hdr.born=y.hdr.born:=congrArg Heap.born e
 have a4:x.hdr.phase=y.hdr.phase:=congrArg Heap.phase e
 have a5:x.hdr.hand=y.hdr.hand:=congrArg Heap.hand e
 have a6:x.hdr.sub=y.hdr.sub:=congrArg Heap.sub e
 have a7:x.hdr.per=y.hdr.per:=congrArg Heap.per e
 have a8:x.hdr.start=y.hdr.start:=congrArg Heap.start e
 have a9:x.hdr.rounds=y.hdr.rounds:=congrArg Heap.rounds e
 have a10:x.hdr.forced=y.hdr.forced:=congrArg Heap.forced e
 have n1:x.hdr.nc=x.xs.length:=rfl
 have n2:y.hdr.nc=y.xs.length:=rfl
 have hbd:x.xs.length≤140737488355328:=by obtain⟨a,l,s⟩:=x2;exact(kn_h kb_cl).out a s
 refine qt_of (fnA_of (fun h=>fn11 (by simp) h) ?_)
 have q1:∀m',star [ro m] m'→Qt Tryz.prog 33 [.slice x.rd.a x.regs.length x.rd.cap,.slice y.rd.a y.regs.length y.rd.cap] m' (.bool true):=fun m' hm=>by
  rw[er];exact wWords_t (x1.le (ro_of hm (F:=[]) ⟨fun _ h=>h⟩)) (y1.le (ro_of hm (F:=[]) ⟨fun _ h=>h⟩))
 have q3:∀m',star [ro m] m'→Qt Tryz.prog 35 [.slice x.gd.a x.gray.length x.gd.cap,.slice y.gd.a y.gray.length y.gd.cap] m' (.bool true):=fun m' hm=>by
  rw[eg];exact wInts_t (x3.le (ro_of hm (F:=[]) ⟨fun _ h=>h⟩)) (y3.le (ro_of hm (F:=[]) ⟨fun _ h=>h⟩))
 repeat' (first
  |(refine k_L ?_;first|refine a_p rfl ?_|(refine k_g ?_;first|refine a_gy rfl rfl ?_|(refine a_gne rfl (fun hb=>?_) (fun hb=>?_)<;>try(exfalso;omega)))|(refine k_bx ?_;refine a_bx rfl rfl ?_)|(refine k_c ?_;refine a_cq rfl (fun m hm=>q1 m hm) ?_))
  |refine a_n ?_
  |(refine k_V ?_;first|refine v_seq ?_|refine v_reg ?_|refine v_skip ?_|(refine v_cn rfl (fun hb=>?_) (fun hb=>?_)<;>try(exfalso;omega)))
  |refine s_n ?_)
 refine g_range x.xs.length (fun _:Unit=>[(2,.box x.row),(3,.box y.row)]) (fun _=>[ro m]) (fun _ _=>True) () trivial (fun i _ hi _=>?_) (fun _ _=>?_)
 ·obtain⟨u,gu,gc⟩:=HX.at (x:=x) (i:=i) (by omega)
  obtain⟨v,gv,gc'⟩:=HX.at (x:=y) (i:=i) (by omega)
  have euv:u.c=v.c:=by
   rw[ec]at gc
   exact Option.some.inj (gc.symm.trans gc')
  have hu:=has_pr x2 gu
  have hv:=has_pr y2 gv
  have q2:∀m',star [ro m] m'→Qt Tryz.prog 34 [.slice u.d.a u.c.pairs.length u.d.cap,.slice v.d.a v.c.pairs.length v.d.cap] m' (.bool true):=fun m' hm=>by
   rw[←euv]at hv⊢
   exact wPairs_t (hu.le (ro_of hm (F:=[]) ⟨fun _ h=>h⟩)) (hv.le (ro_of hm (F:=[]) ⟨fun _ h=>h⟩))
  have b1:u.c.state=v.c.state:=by rw[euv]
  have b2:u.c.kind=v.c.kind:=by rw[euv]
  have b3:u.c.weak=v.c.weak:=by rw[euv]
  have b4:u.c.last=v.c.last:=by rw[euv]
  have b5:u.c.born=v.c.born:=by rw[euv]
  have b6:u.c.color=v.c.color:=by rw[euv]
  have b7:u.c.to=v.c.to:=by rw[euv]
  repeat' (first
   |(refine k_L ?_;first|refine a_p rfl ?_|(refine k_g ?_;first|refine a_gy rfl rfl ?_|(refine a_gne rfl (fun hb=>?_) (fun hb=>?_)<;>try(exfalso;omega)))|(refine k_st ?_;refine g_sw rfl rfl rfl rfl (Nat.le_of_ble_eq_true rfl) ?_)|(refine k_al ?_;refine a_al ?_)|(refine k_c ?_;refine a_cq rfl (fun m hm=>q2 m hm) ?_)|(refine a_i (e:=x.cd) rfl rfl (kn_h (kn_ro x2 (kn_h (kn_cl gu)))) (by omega) ?_)|(refine a_i (e:=y.cd) rfl rfl (kn_h (kn_ro y2 (kn_h (kn_cl gv)))) (by omega) ?_)|(refine a_ls rfl (rs_h (rs_ro x2 (rs_h (rs_cl gu)))) ?_)|(refine a_ls rfl (rs_h (rs_ro y2 (rs_h (rs_cl gv)))) ?_))
   |refine a_n ?_
   |(refine k_V ?_;first|refine v_seq ?_|refine v_reg ?_|refine v_skip ?_|refine v_cf rfl ?_)
   |refine sk_zero ?_
   |refine sk_succ ?_
   |refine wk_nil ?_
   |refine wk_cons ?_)
  all_goals exact r_nx () trivial
 ·repeat' (first
   |(refine k_L ?_;first|refine a_p rfl ?_|(refine k_g ?_;first|refine a_gy rfl rfl ?_|(refine a_gd rfl (fun hb=>?_) (fun hb=>?_)<;>try(exfalso;omega)))|(refine k_c ?_;refine a_cq rfl (fun m hm=>q3 m hm) ?_))
   |refine a_n ?_
   |(refine k_V ?_;first|refine v_seq ?_|refine v_reg ?_|refine v_ret ?_))
  exact fa_q (by simp) (fun _ _=>rfl) (by rw[a10];simp)
noncomputable def Heap.roundA(H:Heap):Heap:=if okH H=0 then H.roundH else Heap.nil
theorem implRound_a{m:Mem}{x:HX}(h:Has m x.body):FnA Tryz.prog 21 [x.v] [ro m] (outA m x.H.roundA):=by
 unfold Heap.roundA
 refine fnA_of (fun h=>fn21 (by simp) h) ?_
 by_cases hS:okH x.H=0
 ·have hs1:=(okH_sound x.H).1 hS
  rw[if_pos hS]
  repeat' (first
   |(refine k_L ?_;first|refine a_p rfl ?_|(refine k_al ?_;refine a_al ?_)|(refine k_bx ?_;refine a_bx rfl rfl ?_)|(refine k_c ?_;refine a_cq rfl (fun m hm=>qt_e (sound_q (x:=x) (has_g h hm)) (congrArg Value.bool (decide_eq_true hS))) ?_)|(refine g_c rfl (twin_a h hs1.r1 hs1.r2) (fun v As' hq=>?_);obtain⟨b,z,rfl,rfl,hz⟩:=hq))
   |refine a_n ?_
   |(refine k_V ?_;first|refine v_seq ?_|refine v_reg ?_|refine v_skip ?_|refine v_cf rfl ?_))
  refine g_c rfl (round_a (x:=z) (by rw[hz];exact hs1)) (fun v As' hq=>?_)
  obtain⟨u,rfl,hu⟩:=hq
  rw[hz]at hu
  repeat' (first
   |(refine k_L ?_;first|refine a_p rfl ?_|(refine k_ls ?_;refine g_ls rfl ?_)|(refine k_st ?_;refine g_sw rfl rfl rfl rfl (Nat.le_of_ble_eq_true rfl) ?_))
   |refine a_n ?_
   |(refine k_V ?_;first|refine v_seq ?_|refine v_reg ?_|refine v_ret ?_)
   |refine sk_zero ?_
   |refine sk_succ ?_
   |refine wk_nil ?_
   |refine wk_cons ?_)
  exact fa_r (As':=u.body++[ro m]) (fun _ _=>rfl) (Pm.ent pmt) ⟨_,⟨u,rfl,hu,rfl⟩,rfl⟩
 ·rw[if_neg hS]
  repeat' (first
   |(refine k_L ?_;first|refine a_p rfl ?_|(refine k_st ?_;refine g_sw rfl rfl rfl rfl (Nat.le_of_ble_eq_true rfl) ?_)|(refine k_al ?_;refine a_al ?_)|(refine k_bx ?_;refine a_bx rfl rfl ?_)|(refine k_c ?_;refine a_cq rfl (fun m hm=>qt_e (sound_q (x:=x) (has_g h hm)) (congrArg Value.bool (decide_eq_false hS))) ?_))
   |refine a_n ?_
   |(refine k_V ?_;first|refine v_seq ?_|refine v_reg ?_|refine v_ret ?_|refine v_ct rfl ?_)
   |refine s_r ?_
   |refine sk_zero ?_
   |refine sk_succ ?_
   |refine wk_nil ?_
   |refine wk_cons ?_)
  exact fa_r (As':=HX.nil.body++[ro m]) (fun _ _=>rfl) nil_ent ⟨_,⟨HX.nil,rfl,rfl,rfl⟩,rfl⟩
theorem specRound_a{m:Mem}{x:HX}(h:Has m x.body):FnA Tryz.prog 23 [x.v] [ro m] (outA m x.H.roundA):=by
 unfold Heap.roundA
 refine fnA_of (fun h=>fn23 (by simp) h) ?_
 by_cases hS:okH x.H=0
 ·have hs1:=(okH_sound x.H).1 hS
  rw[if_pos hS]
  repeat' (first
   |(refine k_L ?_;first|refine a_p rfl ?_|(refine k_al ?_;refine a_al ?_)|(refine k_bx ?_;refine a_bx rfl rfl ?_)|(refine k_c ?_;refine a_cq rfl (fun m hm=>qt_e (specHeapOk_q (x:=x) (has_g h hm)) (by rw[hS])) ?_)|(refine g_c rfl (l1copy_a h hs1.r1 hs1.r2) (fun v As' hq=>?_);obtain⟨b,z,rfl,rfl,hz⟩:=hq))
   |refine a_n ?_
   |(refine k_V ?_;first|refine v_seq ?_|refine v_reg ?_|refine v_skip ?_|refine v_cf rfl ?_))
  refine g_c rfl (l3round_a (x:=z) (by rw[hz];exact hs1)) (fun v As' hq=>?_)
  obtain⟨u,rfl,hu⟩:=hq
  rw[hz]at hu
  repeat' (first
   |(refine k_L ?_;first|refine a_p rfl ?_|(refine k_ls ?_;refine g_ls rfl ?_)|(refine k_st ?_;refine g_sw rfl rfl rfl rfl (Nat.le_of_ble_eq_true rfl) ?_))
   |refine a_n ?_
   |(refine k_V ?_;first|refine v_seq ?_|refine v_reg ?_|refine v_ret ?_)
   |refine sk_zero ?_
   |refine sk_succ ?_
   |refine wk_nil ?_
   |refine wk_cons ?_)
  exact fa_r (As':=u.body++[ro m]) (fun _ _=>rfl) (Pm.ent pmt) ⟨_,⟨u,rfl,hu,rfl⟩,rfl⟩
 ·rw[if_neg hS]
  repeat' (first
   |(refine k_L ?_;first|refine a_p rfl ?_|(refine k_st ?_;refine g_sw rfl rfl rfl rfl (Nat.le_of_ble_eq_true rfl) ?_)|(refine k_al ?_;refine a_al ?_)|(refine k_bx ?_;refine a_bx rfl rfl ?_)|(refine k_c ?_;refine a_cq rfl (fun m hm=>specHeapOk_q (x:=x) (has_g h hm)) ?_))
   |refine a_n ?_
   |(refine k_V ?_;first|refine v_seq ?_|refine v_reg ?_|refine v_ret ?_|(refine v_cn rfl (fun hb=>?_) (fun hb=>?_)<;>try(exfalso;omega)))
   |refine s_r ?_
   |refine sk_zero ?_
   |refine sk_succ ?_
   |refine wk_nil ?_
   |refine wk_cons ?_)
  exact fa_r (As':=HX.nil.body++[ro m]) (fun _ _=>rfl) nil_ent ⟨_,⟨HX.nil,rfl,rfl,rfl⟩,rfl⟩
def OkK(K:Heap):Prop:=Sound K∨K=Heap.nil
theorem OkK.fin{K:Heap}(h:OkK K):1≤endH 1 K∧endH 1 K≤1000000:=by
 have hn:=pairsN_nonneg K.cells
 rcases h with h|rfl
 ·have h1:=h.r1.regs
  have h2:=h.r1.cells
  have h3:=h.r1.room
  have h4:=h.r1.gray
  have h5:=pairsN_units h.r2
  have h6:=h.r3
  unfold R3 at h6
  rw[endH_eq];omega
 ·rw[endH_eq];simp[Heap.nil,pairsN]
theorem Hue.symm{H K:Heap}(h:Hue H K):Hue K H:=
 ⟨h.len.symm,fun j=>by rw[h.cell j];rfl,h.regs.symm,h.room.symm,h.born.symm,h.per.symm,h.start.symm,h.forced.symm⟩
theorem Hue.back{H K:Heap}(h:Hue H K)(hd:∀j:Int,Doomed K j→Doomed H j):∀b n,Node H b n→Node K b n:=(h.symm.iso hd).node
theorem enter_back{H:Heap}{p:Int}(hp:p≠3):∀b n,Node H b n→Node (H.enterH p) b n:=
 (hue_same rfl rfl rfl rfl rfl rfl rfl:Hue H (H.enterH p)).back fun j h=>absurd h.1 hp
theorem roots_back{H:Heap}(h:Sound H)(hp:H.phase=1):∀b n,Node H b n→Node H.rootsU b n:=by
 have h0:=h.r1.hand
 unfold Heap.rootsU
 split
 ·exact enter_back (by omega)
 ·refine Hue.back ?_ (fun j hd=>?_)
  ·split
   ·exact(hue_shadeH (by omega)).trans (hue_same rfl rfl rfl rfl rfl rfl rfl)
   ·exact hue_same rfl rfl rfl rfl rfl rfl rfl
  ·have:(if Root (H.getC H.hand)then H.shadeH H.hand.toNat else H).phase=3:=hd.1
   split at this
   ·have e:(H.shadeH H.hand.toNat).phase=H.phase:=by unfold Heap.shadeH;split<;>rfl
    omega
   ·omega
theorem mark_back{H:Heap}(h:Sound H)(hp:H.phase=2)(hn:H.markU.phase≠3):∀b n,Node H b n→Node H.markU b n:=by
 have hi:=mark_iso h hp
 revert hn
 unfold Heap.markU
 cases hg:H.gray with
 |nil=>
  simp only
  split
  ·intro hn
   exact(hue_shadeL H.regs H (fun w hw=>(reg_used h.r4 hw).1)).back (fun j hd=>absurd hd.1 hn)
  ·intro hn;exact absurd rfl hn
 |cons g r=>
  simp only
  obtain⟨g1,g2,g3⟩:=h.r5.mark (.inr hp)
  obtain⟨b0,b1,b2,b3⟩:=g2 g (by rw[hg];simp)
  cases hs:(H.getC g).pairs[H.sub.toNat]? with
  |none=>
   simp only
   intro hn
   refine Hue.back (hue_set (i:=g.toNat) (k:=2) (by omega) ?_ rfl rfl rfl rfl rfl rfl) (fun j hd=>absurd hd.1 hn)
   rw[show((g.toNat:Nat):Int)=g by omega];rfl
  |some p=>
   simp only
   intro hn
   obtain⟨⟨k1,k2⟩,v1,v2⟩:=markP h hp hg hs
   have a:=hue_shadeW k1
   have b:=hue_shadeW (H:=H.shadeW p.key) (w:=p.val) (formed_len a.len v1)
   exact Hue.back (Hue.trans (a.trans b) (hue_same rfl rfl rfl rfl rfl rfl rfl)) (fun j hd=>absurd hd.1 hn)
theorem sweep_back{H:Heap}(h:Sound H)(hp:H.phase=3):∀b n,Node H b n→Node H.sweepU b n:=by
 have h0:=h.r1.hand
 unfold Heap.sweepU
 split
 ·exact enter_back (by omega)
 rename_i hh
 have hc:=getL_some (cs:=H.cells) h0.1 (by omega)
 rw[←getC_L]at hc
 have hlt:=(List.getElem?_eq_some_iff.1 hc).1
 have eh:((H.hand.toNat:Nat):Int)=H.hand:=by omega
 split
 ·rename_i hc0
  have hdh:Doomed H H.hand:=⟨hp,hc0.1,hc0.2,by omega⟩
  generalize hK:({H with used:=H.used-(1+(H.getC H.hand).pairs.length),cells:=H.cells.set H.hand.toNat Cell.zero,hand:=H.hand+1}:Heap)=K
  have gC:∀j:Int,0≤j→j≠H.hand→K.getC j=H.getC j:=fun j j0 hj=>by
   rw[getC_L,getC_L,←hK,getL_set hlt,if_neg (by omega)]
  refine(iso_direct (H:=K) (K:=H) (by rw[←hK]) (fun w hw hk=>?_) (fun i c hc1 hs1 hd=>?_) (by rw[←hK]) (by rw[←hK]) (by rw[←hK]) (by rw[←hK]) (by rw[←hK])).node
  ·rw[←hK]at hw
   obtain⟨a,b⟩:=reg_used h.r4 hw
   have hat:=a.at hk
   obtain⟨b1,b2⟩:=b hk
   have e2:=gC _ hat.1 (fun e=>b2 (by rw[e];exact hdh))
   exact⟨by rw[e2];exact b1,e2.symm⟩
  ·have hne:(i:Int)≠H.hand:=fun e=>hd (by rw[e];exact hdh)
   have e2:=gC i (by omega) hne
   refine⟨?_,fun hd'=>hd ⟨hp,by rw[←e2];exact hd'.2.1,by rw[←e2];exact hd'.2.2.1,?_⟩,fun p hp' w hw hk=>?_⟩
   ·rw[e2,getC_nat hc1,←hK]
    show(H.cells.set H.hand.toNat Cell.zero)[i]?=some c
    rw[List.getElem?_set,if_neg (by omega)];exact hc1
   ·have:=hd'.2.2.2
    rw[←hK]at this
    have:H.hand+1≤(i:Int):=this
    omega
   ·obtain⟨k,hk'⟩:=List.getElem?_of_mem hp'
    have m:=pair_used h.r4 hc1 hk' (not_mend (by omega) _ _) hd hw
    obtain⟨b1,b2⟩:=m.2 hk
    have e3:=gC w.at_ (m.1.at hk).1 (fun e=>b2 (by rw[e];exact hdh))
    rw[e3]
    exact⟨b1,b1,rfl⟩
 ·rename_i hc0
  refine Hue.back (hue_set (i:=H.hand.toNat) (k:=0) hlt (by rw[eh]) rfl rfl rfl rfl rfl rfl) (fun j hd=>?_)
  have h4:H.hand+1≤j:=hd.2.2.2
  have gC:Heap.getC {H with cells:=H.cells.set H.hand.toNat ((H.getC H.hand).col 0),hand:=H.hand+1} j=H.getC j:=by
   rw[getC_L,getL_set hlt,if_neg (by omega)];rfl
  exact⟨hd.1,by rw[←gC];exact hd.2.1,by rw[←gC];exact hd.2.2.1,by omega⟩
theorem move_back{H:Heap}(h:Sound H)(hp:H.phase=4):∀b n,Node H b n→Node H.moveU b n:=by
 have nd:∀j:Int,¬Doomed H j:=fun j=>not_doom (by omega) j
 unfold Heap.moveU
 obtain⟨a1,a2,a3,a4⟩:=frG_ok H H.cells.length
 obtain⟨b1,b2,b3,b4⟩:=luG_ok H H.cells.length
 split
 ·exact enter_back (by omega)
 rename_i hlt
 have sf:=(a3 (by omega)).2
 have su:=b3 (by omega)
 generalize frG H H.cells.length=f at*
 generalize luG H H.cells.length=u at*
 have key:=moved_aw h hp ⟨a1,by omega⟩ b2 sf su
 have ndK:∀j:Int,¬Doomed (H.moved f u) j:=fun j=>not_doom (by show H.phase≠3;omega) j
 have hcu:=getL_some (cs:=H.cells) (j:=u) (by omega) (by omega)
 rw[←getC_L]at hcu
 intro b n hn
 obtain⟨i,c,h1,h2,h3,h4,h5⟩:=hn
 have hi:=(List.getElem?_eq_some_iff.1 h1).1
 have hw:n=⟨c.kind,c.weak,c.last,c.pairs.map (H.moved f u).ap⟩:=by
  rw[h5]
  congr 1
  refine List.map_congr_left fun p hp'=>?_
  obtain⟨k,hk'⟩:=List.getElem?_of_mem hp'
  obtain⟨p1,p2,p3⟩:=h.r4.pairs i c h1 k p hk'
  obtain⟨q1,q2⟩:=p3 (nd i)
  unfold Heap.ap
  rw[key _ p1 ⟨_,q1⟩,key _ p2 ⟨_,q2⟩]
 by_cases e:i=u.toNat
 ·subst e
  rw[hcu]at h1
  cases h1
  refine⟨f.toNat,_,?_,h2,ndK _,h4,hw⟩
  show((H.cells.set f.toNat (H.getC u)).set u.toNat (Cell.gone f))[f.toNat]?=_
  rw[List.getElem?_set,if_neg (by omega),List.getElem?_set,if_pos rfl,if_pos (by omega)]
 ·have e2:i≠f.toNat:=fun e2=>by
   have:=getC_nat h1
   rw[e2,show((f.toNat:Nat):Int)=f by omega]at this
   rw[this]at sf;omega
  refine⟨i,c,?_,h2,ndK _,h4,hw⟩
  show((H.cells.set f.toNat (H.getC u)).set u.toNat (Cell.gone f))[i]?=_
  rw[List.getElem?_set,if_neg (by omega),List.getElem?_set,if_neg (by omega)];exact h1
theorem mend_back{H:Heap}(h:Sound H)(hp:H.phase=5):∀b n,Node H b n→Node H.mendU b n:=by
 have nd:∀j:Int,¬Doomed H j:=fun j=>not_doom (by omega) j
 have h0:=h.r1.hand
 unfold Heap.mendU
 split
 ·exact enter_back (by omega)
 rename_i hh
 have hc:=getL_some (cs:=H.cells) h0.1 (by omega)
 rw[←getC_L]at hc
 have hlt:=(List.getElem?_eq_some_iff.1 hc).1
 cases hs:(H.getC H.hand).pairs[H.sub.toNat]? with
 |none=>simp only;exact(hue_same rfl rfl rfl rfl rfl rfl rfl:Hue H {H with hand:=H.hand+1,sub:=0}).back fun j hd=>by have:H.phase=3:=hd.1;omega
 |some p=>
  simp only
  have e0:H.phase≠3:=by omega
  generalize hq:(⟨H.lead p.key,H.lead p.val⟩:Pair)=q
  generalize hK:({H with cells:=H.cells.set H.hand.toNat {H.getC H.hand with pairs:=(H.getC H.hand).pairs.set H.sub.toNat q},sub:=H.sub+1}:Heap)=K
  have e1:K.cells=H.cells.set H.hand.toNat {H.getC H.hand with pairs:=(H.getC H.hand).pairs.set H.sub.toNat q}:=by rw[←hK]
  have ndK:∀j:Int,¬Doomed K j:=fun j=>not_doom (by rw[←hK];exact e0) j
  have gC:∀j:Int,(K.getC j).state=(H.getC j).state∧(K.getC j).to=(H.getC j).to∧(K.getC j).born=(H.getC j).born:=fun j=>by
   rw[getC_L,getC_L,e1,getL_set hlt]
   split
   ·rename_i e
    have:H.getC j=H.getC H.hand:=by rw[getC_L,getC_L];unfold getL;rw[e]
    show _=(H.getC j).state∧_=(H.getC j).to∧_=(H.getC j).born
    rw[this];exact⟨rfl,rfl,rfl⟩
   ·exact⟨rfl,rfl,rfl⟩
  have haw:K.aw=H.aw:=by
   funext w
   have hl:K.lead w=H.lead w:=by unfold Heap.lead;rw[(gC _).1,(gC _).2.1]
   unfold Heap.aw
   rw[hl,(gC _).2.2]
  have hap:K.ap=H.ap:=by funext p;unfold Heap.ap;rw[haw]
  intro b n hn
  obtain⟨i,c,h1,h2,h3,h4,h5⟩:=hn
  by_cases e:i=H.hand.toNat
  ·subst e
   rw[hc]at h1
   cases h1
   refine⟨H.hand.toNat,{H.getC H.hand with pairs:=(H.getC H.hand).pairs.set H.sub.toNat q},?_,h2,ndK _,h4,?_⟩
   ·rw[e1,List.getElem?_set,if_pos rfl,if_pos hlt]
   ·rw[h5,hap]
    congr 1
    obtain⟨p1,p2,p3⟩:=h.r4.pairs _ _ hc _ p hs
    obtain⟨q1,q2⟩:=p3 (nd _)
    have l1:=lead_fm h.r2 p1 q1 nd
    have l2:=lead_fm h.r2 p2 q2 nd
    have:H.ap q=H.ap p:=by
     rw[←hq]
     unfold Heap.ap
     rw[lead_lead (fun hk=>l1.2 (lead_kind.2 hk)),lead_lead (fun hk=>l2.2 (lead_kind.2 hk))]
    show _=List.map H.ap ((H.getC H.hand).pairs.set H.sub.toNat q)
    rw[List.map_set,this]
    refine List.ext_getElem? fun k=>?_
    rw[List.getElem?_set]
    split
    ·rename_i e
     subst e
     rw[List.getElem?_map,hs]
     rw[if_pos (by rw[List.length_map];exact(List.getElem?_eq_some_iff.1 hs).1)];rfl
    ·rfl
  ·refine⟨i,c,?_,h2,ndK _,h4,by rw[h5,hap]⟩
   rw[e1,List.getElem?_set,if_neg (by omega)];exact h1
theorem close_back{H:Heap}(h:Sound H)(hp:H.phase=6):∀b n,Node H b n→Node H.closeU b n:=by
 have nd:∀j:Int,¬Doomed H j:=fun j=>not_doom (by omega) j
 have h0:=h.r1.hand
 obtain⟨l1,l2⟩:=lead1 h hp
 unfold Heap.closeU
 split
 ·exact(hue_same rfl rfl rfl rfl rfl rfl rfl:Hue H {H.enterH 0 with rounds:=if H.rounds<1000000000 then H.rounds+1 else H.rounds}).back fun j hd=>by have:(0:Int)=3:=hd.1;omega
 rename_i hh
 have hc:=getL_some (cs:=H.cells) (j:=H.hand-1) (by omega) (by omega)
 rw[←getC_L]at hc
 have hlt:=(List.getElem?_eq_some_iff.1 hc).1
 have hl:H.closeA.length=H.cells.length:=by unfold Heap.closeA;split<;>simp
 have gA:∀(i:Nat) c,H.cells[i]?=some c→c.state=1→H.closeA[i]?=some c:=fun i c hi hs=>by
  unfold Heap.closeA
  split
  ·rename_i e
   rw[List.getElem?_set,if_neg (fun e2=>by
    have:=getC_nat hi
    rw[←e2,show(((H.hand-1).toNat:Nat):Int)=H.hand-1 by omega]at this
    rw[this]at e;omega)]
   exact hi
  ·exact hi
 generalize hX:(if H.hand=H.cells.length∧(getL H.closeA (H.hand-1)).state=0 then H.closeA.take (H.hand-1).toNat else H.closeA)=X
 have gX:∀(i:Nat) c,H.cells[i]?=some c→c.state=1→X[i]?=some c:=fun i c hi hs=>by
  rw[←hX]
  have h1:=gA i c hi hs
  split
  ·rename_i e
   have hil:=(List.getElem?_eq_some_iff.1 hi).1
   rw[List.getElem?_take,if_pos ?_]
   ·exact h1
   ·have:i≠(H.hand-1).toNat:=fun e2=>by
     rw[getL_at h1 (by omega)]at e
     omega
    omega
  ·exact h1
 have gY:∀j:Int,0≤j→j<H.cells.length→(H.getC j).state=1→getL X j=H.getC j:=fun j j0 j1 hj=>by
  have h1:=getL_some (cs:=H.cells) j0 j1
  rw[←getC_L]at h1
  exact getL_at (gX _ _ h1 hj) rfl
 refine(iso_direct (H:={H with hand:=H.hand-1,cells:=X}) (K:=H) rfl (fun w hw hk=>?_) (fun i c hc1 hs1 hd=>?_) rfl rfl rfl rfl rfl).node
 ·have a:=l1 w hw
  have hat:=a.1.at hk
  have e:Heap.getC {H with hand:=H.hand-1,cells:=X} w.at_=H.getC w.at_:=gY _ hat.1 hat.2 (a.2 hk)
  rw[e]
  exact⟨a.2 hk,rfl⟩
 ·have h2:=gX i c hc1 hs1
  have e:Heap.getC {H with hand:=H.hand-1,cells:=X} i=c:=getL_at h2 (by omega)
  rw[e]
  refine⟨h2,fun hd=>by have:H.phase=3:=hd.1;omega,fun p hp' w hw hk=>?_⟩
  obtain⟨k,hk'⟩:=List.getElem?_of_mem hp'
  have a:=l2 i c hc1 k p hk' w hw
  have hat:=a.1.at hk
  have e:Heap.getC {H with hand:=H.hand-1,cells:=X} w.at_=H.getC w.at_:=gY _ hat.1 hat.2 (a.2 hk)
  rw[e]
  exact⟨a.2 hk,a.2 hk,rfl⟩
theorem unit_back{H:Heap}(h:Sound H)(hn:¬(H.phase=2∧H.unitH.phase=3)):∀b n,Node H b n→Node H.unitH b n:=by
 revert hn
 unfold Heap.unitH
 split
 ·exact fun _=>roots_back h ‹_›
 split
 ·rename_i e;exact fun hn=>mark_back h e (fun x=>hn ⟨e,x⟩)
 split
 ·exact fun _=>sweep_back h ‹_›
 split
 ·exact fun _=>move_back h ‹_›
 split
 ·exact fun _=>mend_back h ‹_›
 split
 ·exact fun _=>close_back h ‹_›
 exact fun _ b n x=>x
def IsC(w:Word)(b:Int):Prop:=w.kind=2∧w.at_=b
inductive ReachB (H:Heap):Int→Prop
 |reg {w:Word} {b:Int}:w∈H.regs.map H.aw→IsC w b→ReachB H b
 |root {b:Int} {n:Nd}:Node H b n→(n.last=1∨n.last=2)→ReachB H b
 |pair {b d:Int} {n:Nd} {p:Pair} {w:Word}:ReachB H b→Node H b n→p∈n.pairs→(w=p.key∨w=p.val)→IsC w d→ReachB H d
theorem aw_tgt{H:Heap}(h2:R2 H){w:Word}{m:Prop}(hf:Formed H w)(hl:LeadsWell H w m){b:Int}:IsC (H.aw w) b↔∃j,H.tgt w=some j∧(H.getC j).born=b:=by
 unfold Heap.aw Heap.tgt IsC
 by_cases hk:w.kind=2
 ·rw[if_pos hk,if_pos (lead_kind.2 hk)]
  have hat:=lead_at h2 hf hk
  constructor
  ·intro⟨_,e⟩
   exact⟨_,rfl,by rw[show(((H.lead w).at_.toNat:Nat):Int)=(H.lead w).at_ by omega];exact e⟩
  ·rintro⟨j,e1,e2⟩
   simp only[Option.some.injEq]at e1
   subst e1
   rw[show(((H.lead w).at_.toNat:Nat):Int)=(H.lead w).at_ by omega]at e2
   exact⟨rfl,e2⟩
 ·rw[if_neg hk,if_neg (fun e=>hk (lead_kind.1 e))]
  exact⟨fun e=>absurd e.1 hk,fun⟨j,e,_⟩=>by cases e⟩
theorem node_at{H:Heap}{i:Nat}{c:Cell}(hc:H.cells[i]?=some c)(hs:c.state=1)(hd:¬Doomed H i):Node H c.born ⟨c.kind,c.weak,c.last,c.pairs.map H.ap⟩:=⟨i,c,hc,hs,hd,rfl,rfl⟩
theorem reach_b{H:Heap}(h:Sound H){i:Nat}(hr:Reached H i):ReachB H (H.getC i).born:=by
 induction hr with
 | @reg w j h1 h2=>
   obtain⟨a,b⟩:=h.r4.regs w h1
   exact .reg (List.mem_map.2 ⟨w,h1,rfl⟩) ((aw_tgt h.r2 a b).2 ⟨_,h2,rfl⟩)
 | @root i c h1 h2=>
   have hd:¬Doomed H i:=fun hd=>h.r4.roots _ _ h1 hd h2
   rw[getC_nat h1]
   exact .root (node_at h1 h2.1 hd) h2.2
 | @pair i j c p w h1 h2 h3 h4 h5 ih=>
   obtain⟨c',a1,a2,a3⟩:=reached_ok h.r2 h.r4 h1
   rw[h2]at a1
   cases a1
   rw[getC_nat h2]at ih
   obtain⟨k,hk⟩:=List.getElem?_of_mem h3
   obtain⟨p1,p2,p3⟩:=h.r4.pairs i c h2 k p hk
   obtain⟨q1,q2⟩:=p3 a3
   refine .pair (p:=H.ap p) (w:=H.aw w) ih (node_at h2 a2 a3) (List.mem_map.2 ⟨p,h3,rfl⟩) (by rcases h4 with rfl|rfl;exact .inl rfl;exact .inr rfl) ?_
   rcases h4 with rfl|rfl
   ·exact(aw_tgt h.r2 p1 q1).2 ⟨_,h5,rfl⟩
   ·exact(aw_tgt h.r2 p2 q2).2 ⟨_,h5,rfl⟩
theorem born_one{H:Heap}(h:R2 H){i j:Nat}{c d:Cell}(hc:H.cells[i]?=some c)(hd:H.cells[j]?=some d)(sc:c.state=1)(sd:d.state=1)(e:c.born=d.born):i=j∧c=d:=by
 have:i=j:=by
  rcases Nat.lt_trichotomy i j with x|x|x
  ·exact absurd e (h.born i j c d hc hd x sc sd)
  ·exact x
  ·exact absurd e.symm (h.born j i d c hd hc x sd sc)
 subst this
 rw[hc]at hd
 cases hd;exact⟨rfl,rfl⟩
theorem b_reach{H:Heap}(h:Sound H){b:Int}(hr:ReachB H b):∃(i:Nat) (c:Cell),H.cells[i]?=some c∧c.state=1∧¬Doomed H i∧c.born=b∧Reached H i:=by
 induction hr with
 | @reg w b h1 h2=>
   obtain⟨v,hv,rfl⟩:=List.mem_map.1 h1
   obtain⟨a,l⟩:=h.r4.regs v hv
   obtain⟨j,e1,e2⟩:=(aw_tgt h.r2 a l).1 h2
   have hr:Reached H j:=.reg hv e1
   obtain⟨c,c1,c2,c3⟩:=reached_ok h.r2 h.r4 hr
   rw[getC_nat c1]at e2
   exact⟨j,c,c1,c2,c3,e2,hr⟩
 | @root b n h1 h2=>
   obtain⟨i,c,a1,a2,a3,a4,rfl⟩:=h1
   exact⟨i,c,a1,a2,a3,a4,.root a1 ⟨a2,h2⟩⟩
 | @pair b d n p w _ h2 h3 h4 h5 ih=>
   obtain⟨i,c,a1,a2,a3,a4,a5⟩:=ih
   obtain⟨i',c',d1,d2,d3,d4,rfl⟩:=h2
   obtain⟨rfl,rfl⟩:=born_one h.r2 a1 d1 a2 d2 (a4.trans d4.symm)
   obtain⟨q,hq,rfl⟩:=List.mem_map.1 h3
   obtain⟨k,hk⟩:=List.getElem?_of_mem hq
   obtain⟨p1,p2,p3⟩:=h.r4.pairs i c a1 k q hk
   obtain⟨q1,q2⟩:=p3 a3
   have key:∀v,(v=q.key∨v=q.val)→Formed H v→LeadsWell H v (¬Mended H i k)→IsC (H.aw v) d→∃(i:Nat) (c:Cell),H.cells[i]?=some c∧c.state=1∧¬Doomed H i∧c.born=d∧Reached H i:=fun v hv hf hl hc=>by
    obtain⟨j,e1,e2⟩:=(aw_tgt h.r2 hf hl).1 hc
    have hr:Reached H j:=.pair a5 a1 hq hv e1
    obtain⟨c2,x1,x2,x3⟩:=reached_ok h.r2 h.r4 hr
    rw[getC_nat x1]at e2
    exact⟨j,c2,x1,x2,x3,e2,hr⟩
   rcases h4 with rfl|rfl
   ·exact key q.key (.inl rfl) p1 q1 h5
   ·exact key q.val (.inr rfl) p2 q2 h5
theorem reach_iff{H:Heap}(h:Sound H){i:Nat}{c:Cell}(hc:H.cells[i]?=some c)(hs:c.state=1):Reached H i↔ReachB H c.born:=by
 constructor
 ·intro hr
  have:=reach_b h hr
  rw[getC_nat hc]at this;exact this
 ·intro hr
  obtain⟨j,d,d1,d2,d3,d4,d5⟩:=b_reach h hr
  obtain⟨rfl,rfl⟩:=born_one h.r2 d1 hc d2 hs d4
  exact d5
theorem enter3_keeps{H:Heap}(h:Sound H)(hs:Sound (H.enterH 3)){i:Nat}(hr:Reached H i):¬Doomed (H.enterH 3) i:=by
 have:Reached (H.enterH 3) i:=by
  induction hr with
  |reg h1 h2=>exact .reg h1 h2
  |root h1 h2=>exact .root h1 h2
  |pair _ h2 h3 h4 h5 ih=>exact .pair ih h2 h3 h4 h5
 obtain⟨c,_,_,hd⟩:=reached_ok hs.r2 hs.r4 this
 exact hd
theorem unit_keep{H:Heap}(h:Sound H){b:Int}{n:Nd}(hn:Node H b n)(hr:ReachB H b):Node H.unitH b n:=by
 by_cases e:H.phase=2∧H.unitH.phase=3
 ·have e2:H.unitH=H.enterH 3:=by
   have e3:=e.2
   unfold Heap.unitH at e3⊢
   rw[if_neg (by omega),if_pos e.1]at e3⊢
   have hne:∀K:Heap,Sh H K→K.phase≠3:=fun K hK=>by rw[hK.phase];omega
   unfold Heap.markU at e3⊢
   cases hg:H.gray with
   |nil=>
    rw[hg]at e3
    simp only at e3⊢
    split at e3
    ·exact absurd e3 (hne _ (shadeL_ok H.regs H (fun w hw=>⟨(reg_used h.r4 hw).1,fun hk=>((reg_used h.r4 hw).2 hk).1⟩)).1)
    ·rename_i hx;rw[if_neg hx]
   |cons g r=>
    rw[hg]at e3
    simp only at e3
    cases hs:(H.getC g).pairs[H.sub.toNat]? with
    |none=>
     rw[hs]at e3
     have:H.phase=3:=e3
     omega
    |some p=>
     rw[hs]at e3
     have:((H.shadeW p.key).shadeW p.val).phase=3:=e3
     exact absurd this (hne _ (markP2 h e.1 hg hs).1)
  rw[e2]
  have hs:=unit_sound h
  rw[e2]at hs
  obtain⟨i,c,a1,a2,a3,a4,a5⟩:=hn
  have hri:=(reach_iff h a1 a2).2 (by rw[a4];exact hr)
  refine⟨i,c,a1,a2,enter3_keeps h hs hri,a4,a5⟩
 ·exact unit_back h e b n hn
theorem unit_reach{H:Heap}(h:Sound H){b:Int}:ReachB H.unitH b↔ReachB H b:=by
 have i:=unit_iso h
 constructor
 ·intro hr
  induction hr with
  |reg h1 h2=>exact .reg (by rw[←i.regs];exact h1) h2
  |root h1 h2=>exact .root (i.node _ _ h1) h2
  |pair _ h2 h3 h4 h5 ih=>exact .pair ih (i.node _ _ h2) h3 h4 h5
 ·intro hr
  induction hr with
  |reg h1 h2=>exact .reg (by rw[i.regs];exact h1) h2
  |root h1 h2=>exact .root (unit_keep h h1 (.root h1 h2)) h2
  |pair h1 h2 h3 h4 h5 ih=>exact .pair ih (unit_keep h h2 h1) h3 h4 h5
def Vis(H:Heap)(b:Int)(n:Nd):Prop:=Node H b n∧ReachB H b
theorem unit_vis{H:Heap}(h:Sound H){b:Int}{n:Nd}:Vis H.unitH b n↔Vis H b n:=
 ⟨fun x=>⟨(unit_iso h).node _ _ x.1,(unit_reach h).1 x.2⟩,fun x=>⟨unit_keep h x.1 x.2,(unit_reach h).2 x.2⟩⟩
end Go.Proofs.YtcjmodomfilagaaGreat.E
