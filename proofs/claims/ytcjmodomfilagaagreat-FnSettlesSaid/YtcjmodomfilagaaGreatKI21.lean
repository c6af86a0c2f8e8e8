/- A part of the proof. Conditions: none. -/
import Derived.Test.YtcjmodomfilagaaGreatKI20
set_option linter.unusedVariables false
set_option linter.unusedSimpArgs false
set_option maxHeartbeats 8000000
set_option maxRecDepth 100000
namespace Go.Proofs.YtcjmodomfilagaaGreat.E
open Go
open Classical
section
variable {pb pc ph:Nat} {ca:Option Addr} {cn cc:Nat} {m:Mem} {s1:DW} {B:Int}
theorem chain_d{n:Int}(h1:DOk s1 B)(hc:Cod m ca cn)(hn:1≤n∧n≤5)(hB:B≤600000000000000):FnA Tryz.prog 94 [ptr pb,.int .i64 n] (dwA pb pc ph ca cn cc m s1) (fun v As=>∃s',DOk s' (B+200)∧As=dwA pb pc ph ca cn cc m s'):=by
 refine fnA_of (fun h=>fn94 (by simp) h) ?_
 repeat' (first
  |(refine k_L ?_;first|refine a_p rfl ?_|(refine k_l ?_;refine g_l rfl ?_)|(refine g_c rfl (put_d h1) (fun v As' hq=>?_);obtain⟨s1,h1,rfl⟩:=hq)|(refine g_c rfl (pick_d h1 hc (by omega) (by omega)) (fun v As' hq=>?_);obtain⟨k,s1,rfl,hk,h1,rfl⟩:=hq))
  |refine a_n ?_
  |(refine k_V ?_;first|refine v_seq ?_|refine v_reg ?_)
  |refine s_n ?_)
 refine v_blk ?_
 refine v_loop (fun q:Int×DW=>[(0,SV.v (ptr pb)),(1,SV.v (.int .i64 n)),(4,SV.v (.int .i64 q.1))]) (fun q=>dwA pb pc ph ca cn cc m q.2) (fun k q=>(k:Int)=n-q.1∧(0≤q.1∧q.1≤n)∧DOk q.2 (B+10+20*q.1)) ⟨n.toNat,(0,s1),⟨rfl,rfl,rfl,trivial⟩,Pm.ent pmt,show((n.toNat:Nat):Int)=n-0 by omega,by show 0≤(0:Int)∧(0:Int)≤n;omega,h1.up (by show _≤B+10+20*(0:Int);omega)⟩ ?_
 rintro k ⟨i,s1⟩ ⟨hk0,hi,h1⟩
 dsimp only at hk0 hi h1⊢
 by_cases hin:i<n
 ·repeat' (first
   |(refine k_L ?_;first|(refine k_ad ?_;refine g_ad rfl rfl ?_)|refine a_p rfl ?_|(refine k_l ?_;refine g_l rfl ?_)|(refine g_c rfl (work_d h1 hc (by omega)) (fun v As' hq=>?_);obtain⟨s1,h1,rfl⟩:=hq)|(refine g_c rfl (put_d h1) (fun v As' hq=>?_);obtain⟨s1,h1,rfl⟩:=hq)|(refine g_c rfl (pick_d h1 hc (by omega) (by omega)) (fun v As' hq=>?_);obtain⟨k,s1,rfl,hk,h1,rfl⟩:=hq))
   |refine a_n ?_
   |(refine k_V ?_;first|refine v_seq ?_|refine v_reg ?_|refine v_bs ?_|refine v_skip ?_|(refine v_cd rfl (fun hb=>?_) (fun hb=>?_)<;>try(exfalso;omega)))
   |refine s_n ?_)
  all_goals exact⟨(n-(i+1)).toNat,(i+1,s1),by omega,⟨rfl,rfl,rfl,trivial⟩,Pm.ent pmt,by show(((n-(i+1)).toNat:Nat):Int)=n-(i+1);omega,⟨by show 0≤i+1;omega,by show i+1≤n;omega⟩,h1.up (by show _≤B+10+20*(i+1);omega)⟩
 ·repeat' (first
   |(refine k_L ?_;first|refine a_p rfl ?_|(refine k_l ?_;refine g_l rfl ?_)|(refine g_c rfl (put_d h1) (fun v As' hq=>?_);obtain⟨s1,h1,rfl⟩:=hq)|(refine g_c rfl (pick_d h1 hc (by omega) (by omega)) (fun v As' hq=>?_);obtain⟨k,s1,rfl,hk,h1,rfl⟩:=hq))
   |refine a_n ?_
   |(refine k_V ?_;first|refine v_seq ?_|refine v_reg ?_|refine v_exit ?_|refine v_skip ?_|(refine v_cd rfl (fun hb=>?_) (fun hb=>?_)<;>try(exfalso;omega))))
  all_goals exact fa_n (fun _ _=>rfl) (Pm.ent pmt) ⟨s1,h1.up (by omega),rfl⟩
end
section
variable {pb pc ph:Nat} {ca:Option Addr} {cn cc:Nat} {m:Mem} {s1:DW} {B:Int}
theorem weakly_d(h1:DOk s1 B)(hc:Cod m ca cn)(hB:B≤600000000000000):FnA Tryz.prog 95 [ptr pb] (dwA pb pc ph ca cn cc m s1) (fun v As=>∃s',DOk s' (B+200)∧As=dwA pb pc ph ca cn cc m s'):=by
 refine fnA_of (fun h=>fn95 (by simp) h) ?_
 refine v_seq (v_reg ?_)
 repeat' (first
  |(refine k_L ?_;first|(refine k_ad ?_;refine g_ad rfl rfl ?_)|refine a_p rfl ?_|(refine k_l ?_;refine g_l rfl ?_)|(refine g_c rfl (pick_d h1 hc (by omega) (by omega)) (fun v As' hq=>?_);obtain⟨n,s1,rfl,hn,h1,rfl⟩:=hq))
  |refine a_n ?_
  |refine s_n ?_)
 repeat' (first
  |(refine k_L ?_;first|(refine k_ad ?_;refine g_ad rfl rfl ?_)|refine a_p rfl ?_|(refine k_l ?_;refine g_l rfl ?_)|(refine g_c rfl (put_d h1) (fun v As' hq=>?_);obtain⟨s1,h1,rfl⟩:=hq)|(refine g_c rfl (pick_d h1 hc (by omega) (by omega)) (fun v As' hq=>?_);obtain⟨k,s1,rfl,hk,h1,rfl⟩:=hq))
  |refine a_n ?_
  |(refine k_V ?_;first|refine v_seq ?_|refine v_reg ?_)
  |refine s_n ?_)
 refine v_blk ?_
 refine v_loop (fun q:Int×DW=>[(0,SV.v (ptr pb)),(2,SV.v (.int .i64 (1+n))),(3,SV.v (.int .i64 q.1))]) (fun q=>dwA pb pc ph ca cn cc m q.2) (fun k q=>(k:Int)=1+n-q.1∧(0≤q.1∧q.1≤1+n)∧DOk q.2 (B+10+30*q.1)) ⟨(1+n).toNat,(0,s1),⟨rfl,rfl,rfl,trivial⟩,Pm.ent pmt,show(((1+n).toNat:Nat):Int)=1+n-0 by omega,by show 0≤(0:Int)∧(0:Int)≤1+n;omega,h1.up (by show _≤B+10+30*(0:Int);omega)⟩ ?_
 rintro k ⟨i,s1⟩ ⟨hk0,hi,h1⟩
 dsimp only at hk0 hi h1⊢
 by_cases hin:i<1+n
 ·repeat' (first
   |(refine k_L ?_;first|(refine k_ad ?_;refine g_ad rfl rfl ?_)|refine a_p rfl ?_|(refine k_l ?_;refine g_l rfl ?_)|(refine g_c rfl (work_d h1 hc (by omega)) (fun v As' hq=>?_);obtain⟨s1,h1,rfl⟩:=hq)|(refine g_c rfl (put_d h1) (fun v As' hq=>?_);obtain⟨s1,h1,rfl⟩:=hq)|(refine g_c rfl (pick_d h1 hc (by omega) (by omega)) (fun v As' hq=>?_);obtain⟨k,s1,rfl,hk,h1,rfl⟩:=hq))
   |refine a_n ?_
   |(refine k_V ?_;first|refine v_seq ?_|refine v_reg ?_|refine v_bs ?_|refine v_skip ?_|(refine v_cd rfl (fun hb=>?_) (fun hb=>?_)<;>try(exfalso;omega)))
   |refine s_n ?_)
  all_goals exact⟨(1+n-(i+1)).toNat,(i+1,s1),by omega,⟨rfl,rfl,rfl,trivial⟩,Pm.ent pmt,by show(((1+n-(i+1)).toNat:Nat):Int)=1+n-(i+1);omega,⟨by show 0≤i+1;omega,by show i+1≤1+n;omega⟩,h1.up (by show _≤B+10+30*(i+1);omega)⟩
 ·repeat' (first
   |(refine k_L ?_;first|refine a_p rfl ?_|(refine g_c rfl (put_d h1) (fun v As' hq=>?_);obtain⟨s1,h1,rfl⟩:=hq))
   |refine a_n ?_
   |(refine k_V ?_;first|refine v_seq ?_|refine v_reg ?_|refine v_exit ?_|(refine v_cd rfl (fun hb=>?_) (fun hb=>?_)<;>try(exfalso;omega))))
  all_goals exact fa_n (fun _ _=>rfl) (Pm.ent pmt) ⟨s1,h1.up (by omega),rfl⟩
end
section
variable {pb pc ph:Nat} {ca:Option Addr} {cn cc:Nat} {m:Mem} {s1:DW} {B:Int}
theorem lastly_d(h1:DOk s1 B)(hc:Cod m ca cn)(hB:B≤600000000000000):FnA Tryz.prog 96 [ptr pb] (dwA pb pc ph ca cn cc m s1) (fun v As=>∃s',DOk s' (B+400)∧As=dwA pb pc ph ca cn cc m s'):=by
 refine fnA_of (fun h=>fn96 (by simp) h) ?_
 repeat' (first
  |(refine k_L ?_;first|(refine k_ad ?_;refine g_ad rfl rfl ?_)|refine a_p rfl ?_|(refine k_l ?_;refine g_l rfl ?_)|(refine g_c rfl (pick_d h1 hc (by omega) (by omega)) (fun v As' hq=>?_);obtain⟨k,s1,rfl,hk,h1,rfl⟩:=hq))
  |refine a_n ?_
  |(refine k_V ?_;first|refine v_seq ?_|refine v_reg ?_)
  |refine s_n ?_)
 refine v_blk ?_
 refine v_loop (fun q:Int×DW=>[(0,SV.v (ptr pb)),(2,SV.v (.int .i64 q.1))]) (fun q=>dwA pb pc ph ca cn cc m q.2) (fun k q=>(k:Int)=q.1∧(0≤q.1∧q.1≤4)∧DOk q.2 (B+200-40*q.1)) ⟨(1+k).toNat,(1+k,s1),⟨rfl,rfl,trivial⟩,Pm.ent pmt,show(((1+k).toNat:Nat):Int)=1+k by omega,by show 0≤1+k∧1+k≤4;omega,h1.up (by show _≤B+200-40*(1+k);omega)⟩ ?_
 rintro k ⟨i,s1⟩ ⟨hk0,hi,h1⟩
 dsimp only at hk0 hi h1⊢
 by_cases hin:i>0
 ·repeat' (first
   |(refine k_L ?_;first|(refine k_ad ?_;refine g_ad rfl rfl ?_)|(refine k_su ?_;refine g_su rfl rfl ?_)|refine a_p rfl ?_|(refine k_l ?_;refine g_l rfl ?_)|(refine g_c rfl (work_d h1 hc (by omega)) (fun v As' hq=>?_);obtain⟨s1,h1,rfl⟩:=hq)|(refine g_c rfl (put_d h1) (fun v As' hq=>?_);obtain⟨s1,h1,rfl⟩:=hq)|(refine g_c rfl (pick_d h1 hc (by omega) (by omega)) (fun v As' hq=>?_);obtain⟨k,s1,rfl,hk,h1,rfl⟩:=hq))
   |refine a_n ?_
   |(refine k_V ?_;first|refine v_seq ?_|refine v_reg ?_|refine v_bs ?_|refine v_skip ?_|(refine v_cd rfl (fun hb=>?_) (fun hb=>?_)<;>try(exfalso;omega)))
   |refine s_n ?_)
  all_goals exact⟨(i-1).toNat,(i-1,s1),by omega,⟨rfl,rfl,trivial⟩,Pm.ent pmt,by show(((i-1).toNat:Nat):Int)=i-1;omega,⟨by show 0≤i-1;omega,by show i-1≤4;omega⟩,h1.up (by show _≤B+200-40*(i-1);omega)⟩
 ·repeat' (first
   |(refine k_L ?_;first|refine a_p rfl ?_|(refine k_l ?_;refine g_l rfl ?_)|(refine g_c rfl (pick_d h1 hc (by omega) (by omega)) (fun v As' hq=>?_);obtain⟨k,s1,rfl,hk,h1,rfl⟩:=hq)|(refine g_c rfl (put_d h1) (fun v As' hq=>?_);obtain⟨s1,h1,rfl⟩:=hq))
   |refine a_n ?_
   |(refine k_V ?_;first|refine v_seq ?_|refine v_reg ?_|refine v_exit ?_|(refine v_cd rfl (fun hb=>?_) (fun hb=>?_)<;>try(exfalso;omega)))
   |refine s_n ?_)
  refine v_blk ?_
  refine v_loop (fun q:Int×DW=>[(0,SV.v (ptr pb)),(3,SV.v (.int .i64 q.1))]) (fun q=>dwA pb pc ph ca cn cc m q.2) (fun k q=>(k:Int)=q.1∧(0≤q.1∧q.1≤4)∧DOk q.2 (B+390-40*q.1)) ⟨(k).toNat,(k,s1),⟨rfl,rfl,trivial⟩,Pm.ent pmt,show(((k).toNat:Nat):Int)=k by omega,by show 0≤k∧k≤4;omega,h1.up (by show _≤B+390-40*(k);omega)⟩ ?_
  rintro k ⟨i,s1⟩ ⟨hk0,hi,h1⟩
  dsimp only at hk0 hi h1⊢
  by_cases hin:i>0
  ·repeat' (first
    |(refine k_L ?_;first|(refine k_su ?_;refine g_su rfl rfl ?_)|refine a_p rfl ?_|(refine k_l ?_;refine g_l rfl ?_)|(refine g_c rfl (work_d h1 hc (by omega)) (fun v As' hq=>?_);obtain⟨s1,h1,rfl⟩:=hq)|(refine g_c rfl (put_d h1) (fun v As' hq=>?_);obtain⟨s1,h1,rfl⟩:=hq)|(refine g_c rfl (pick_d h1 hc (by omega) (by omega)) (fun v As' hq=>?_);obtain⟨k,s1,rfl,hk,h1,rfl⟩:=hq)|(refine g_c rfl (pairof_i h1 hc (by omega) (by omega)) (fun v As' hq=>?_);obtain⟨k,s1,rfl,h1,rfl⟩:=hq))
    |refine a_n ?_
    |(refine k_V ?_;first|refine v_seq ?_|refine v_reg ?_|refine v_bs ?_|refine v_skip ?_|(refine v_cd rfl (fun hb=>?_) (fun hb=>?_)<;>try(exfalso;omega)))
    |refine s_n ?_)
   all_goals exact⟨(i-1).toNat,(i-1,s1),by omega,⟨rfl,rfl,trivial⟩,Pm.ent pmt,by show(((i-1).toNat:Nat):Int)=i-1;omega,⟨by show 0≤i-1;omega,by show i-1≤4;omega⟩,h1.up (by show _≤B+390-40*(i-1);omega)⟩
  ·repeat' (first
    |(refine k_L ?_;first|refine a_p rfl ?_|(refine g_c rfl (put_d h1) (fun v As' hq=>?_);obtain⟨s1,h1,rfl⟩:=hq))
    |refine a_n ?_
    |(refine k_V ?_;first|refine v_seq ?_|refine v_reg ?_|refine v_exit ?_|(refine v_cd rfl (fun hb=>?_) (fun hb=>?_)<;>try(exfalso;omega))))
   all_goals exact fa_n (fun _ _=>rfl) (Pm.ent pmt) ⟨s1,h1.up (by omega),rfl⟩
end
section
variable {pb pc ph:Nat} {ca:Option Addr} {cn cc:Nat} {m:Mem} {s1:DW} {B:Int}
theorem some_d(h1:DOk s1 B)(hc:Cod m ca cn)(hB:B≤500000000000000):FnA Tryz.prog 59 [ptr pb] (dwA pb pc ph ca cn cc m s1) (fun v As=>∃s',DOk s' (B+600)∧As=dwA pb pc ph ca cn cc m s'):=by
 refine fnA_of (fun h=>fn59 (by simp) h) ?_
 repeat' (first
  |(refine k_L ?_;first|(refine k_ad ?_;refine g_ad rfl rfl ?_)|refine a_p rfl ?_|(refine k_l ?_;refine g_l rfl ?_)|(refine g_c rfl (pick_d h1 hc (by omega) (by omega)) (fun v As' hq=>?_);obtain⟨k,s1,rfl,hk,h1,rfl⟩:=hq)|(refine g_c rfl (chain_d h1 hc (by omega) (by omega)) (fun v As' hq=>?_);obtain⟨s1,h1,rfl⟩:=hq)|(refine g_c rfl (weakly_d h1 hc (by omega)) (fun v As' hq=>?_);obtain⟨s1,h1,rfl⟩:=hq)|(refine g_c rfl (lastly_d h1 hc (by omega)) (fun v As' hq=>?_);obtain⟨s1,h1,rfl⟩:=hq)|(refine g_c rfl (ring_d h1 hc (by omega)) (fun v As' hq=>?_);obtain⟨s1,h1,rfl⟩:=hq)|(refine g_c rfl (work_d h1 hc (by omega)) (fun v As' hq=>?_);obtain⟨s1,h1,rfl⟩:=hq))
  |refine a_n ?_
  |(refine k_V ?_;first|refine v_seq ?_|refine v_reg ?_|refine v_bs ?_|(refine v_cd rfl (fun hb=>?_) (fun hb=>?_)<;>try(exfalso;omega)))
  |refine s_n ?_)
 all_goals try exact fa_n (fun _ _=>rfl) (Pm.ent pmt) ⟨s1,h1.up (by omega),rfl⟩
 refine v_blk ?_
 refine v_loop (fun q:Int×DW=>[(0,SV.v (ptr pb)),(3,SV.v (.int .i64 q.1))]) (fun q=>dwA pb pc ph ca cn cc m q.2) (fun k q=>(k:Int)=q.1∧(0≤q.1∧q.1≤9)∧DOk q.2 (B+400-32*q.1)) ⟨(2+k).toNat,(2+k,s1),⟨rfl,rfl,trivial⟩,Pm.ent pmt,show(((2+k).toNat:Nat):Int)=2+k by omega,by show 0≤2+k∧2+k≤9;omega,h1.up (by show _≤B+400-32*(2+k);omega)⟩ ?_
 rintro k ⟨i,s1⟩ ⟨hk0,hi,h1⟩
 dsimp only at hk0 hi h1⊢
 by_cases hin:i>0
 ·repeat' (first
   |(refine k_L ?_;first|(refine k_su ?_;refine g_su rfl rfl ?_)|refine a_p rfl ?_|(refine g_c rfl (act_d h1 hc (by omega)) (fun v As' hq=>?_);obtain⟨s1,h1,rfl⟩:=hq)|(refine g_c rfl (work_d h1 hc (by omega)) (fun v As' hq=>?_);obtain⟨s1,h1,rfl⟩:=hq))
   |refine a_n ?_
   |(refine k_V ?_;first|refine v_seq ?_|refine v_reg ?_|refine v_bs ?_|refine v_skip ?_|(refine v_cd rfl (fun hb=>?_) (fun hb=>?_)<;>try(exfalso;omega)))
   |refine s_n ?_)
  all_goals exact⟨(i-1).toNat,(i-1,s1),by omega,⟨rfl,rfl,trivial⟩,Pm.ent pmt,by show(((i-1).toNat:Nat):Int)=i-1;omega,⟨by show 0≤i-1;omega,by show i-1≤9;omega⟩,h1.up (by show _≤B+400-32*(i-1);omega)⟩
 ·repeat' (first
   |(refine k_L ?_;first|refine a_p rfl ?_|(refine g_c rfl (work_d h1 hc (by omega)) (fun v As' hq=>?_);obtain⟨s1,h1,rfl⟩:=hq))
   |refine a_n ?_
   |(refine k_V ?_;first|refine v_seq ?_|refine v_reg ?_|refine v_exit ?_|(refine v_cd rfl (fun hb=>?_) (fun hb=>?_)<;>try(exfalso;omega))))
  all_goals exact fa_n (fun _ _=>rfl) (Pm.ent pmt) ⟨s1,h1.up (by omega),rfl⟩
end
def Heap.new(room:Int):Heap:=⟨room,0,0,List.replicate 16 ⟨0,0,0⟩,[],0,0,0,[],0,0,0,0⟩
theorem new_heap_sound{room:Int}(h:1≤room∧room≤4000):Sound (Heap.new room) where
 r1:=⟨h,by simp[Heap.new],by simp[Heap.new];omega,by simp[Heap.new],by simp[Heap.new],by simp[Heap.new],by simp[Heap.new],by simp[Heap.new],by simp[Heap.new],by simp[Heap.new],by simp[Heap.new],by simp[Heap.new]⟩
 r2:=⟨fun i c hc=>by simp[Heap.new]at hc,fun i j c d hc=>by simp[Heap.new]at hc,fun i j c d hc=>by simp[Heap.new]at hc⟩
 r3:=⟨rfl,by show(0:Int)≤room;omega⟩
 r4:=⟨fun w hw=>by
  have:w=⟨0,0,0⟩:=List.eq_of_mem_replicate hw
  subst this
  exact⟨.inl ⟨rfl,rfl,rfl⟩,fun hk=>by simp at hk⟩,fun i c hc=>by simp[Heap.new]at hc,fun i c hc=>by simp[Heap.new]at hc⟩
 r5:=⟨fun hm=>by rcases hm with h|h<;>simp[Heap.new]at h,fun _=>⟨rfl,fun i c hc=>by simp[Heap.new]at hc⟩⟩
 r6:=by unfold R6;rw[if_pos (.inl rfl)];exact⟨rfl,rfl⟩
 r7:=fun hm=>by rcases hm with h|h<;>simp[Heap.new]at h
 r8:=fun h=>by simp[Heap.new]at h
theorem l1fresh_a{room:Int}{As:List Asr}(h:1≤room∧room≤4000):FnA Tryz.prog 92 [.int .i64 room] As (fun v As'=>∃a z,v=ptr a∧As'=hp a z++As∧z.H=Heap.new room):=by
 refine fnA_of (fun h=>fn92 (by simp) h) ?_
 repeat' (first
  |(refine k_L ?_;first|refine a_p rfl ?_|(refine a_mk (f:=wv) (n:=16) (k:=16) ⟨0,0,0⟩ wv_len rfl rfl rfl (by omega) (by omega) (fun g hg=>?_))|(refine a_nw rfl rfl (fun b=>?_)))
  |refine a_n ?_
  |(refine k_V ?_;first|refine v_seq ?_|refine v_reg ?_|refine v_ret ?_))
 refine fa_r (As':=hp b (⟨room,0,0,List.replicate 16 ⟨0,0,0⟩,[],0,0,0,[],0,0,0,0,g,⟨none,0⟩,⟨none,0⟩⟩:HX)++As) (fun _ _=>rfl) ?_ ⟨b,_,rfl,rfl,rfl⟩
 refine Ent.trans (ent_new (f:=iv) (size:=1)) ?_
 refine Ent.trans (ent_new (f:=csv) (size:=8)) ?_
 refine Ent.trans (cl_nil (d:=⟨none,0⟩)) ?_
 exact ent_of fun m hm=>star_perm ((List.perm_append_comm (l₁:=[clA ⟨none,0⟩ [],slA 1 iv ⟨none,0⟩ []]) (l₂:=[_,_])).append_right As) hm
section
variable {pb pc ph:Nat} {ca:Option Addr} {cn cc:Nat} {m:Mem} {s1:DW} {B:Int}
theorem begin_d(h1:DOk s1 B)(hp0:s1.x.H.phase=0):FnA Tryz.prog 60 [ptr ph] (dwA pb pc ph ca cn cc m s1) (fun v As=>∃s',DOk s' B∧s'.x.H.phase≠0∧As=dwA pb pc ph ca cn cc m s'):=
 (l3begin_a (a:=ph) (x:=s1.x)).part pmt fun v As' eA=>by
   subst eA
   refine⟨_,Pm.ent pmt,{s1 with x:=s1.x.ph 1 0},⟨?_,h1.t0,h1.tB,h1.lf,h1.al⟩,?_,rfl⟩
   ·show Sound (s1.x.ph 1 0).H
    rw[show(s1.x.ph 1 0).H=s1.x.H.enterH 1 from ph_H rfl]
    exact begin_sound h1.snd hp0
   ·show(1:Int)≠0
    decide
theorem unit_d(h1:DOk s1 B)(hp0:s1.x.H.phase≠0):FnA Tryz.prog 61 [ptr ph] (dwA pb pc ph ca cn cc m s1) (fun v As=>∃s',DOk s' B∧As=dwA pb pc ph ca cn cc m s'):=
 (l3unit_a (a:=ph) (x:=s1.x) h1.snd hp0).part pmt fun v As' ⟨z,eA,hz⟩=>by
   subst eA
   exact⟨_,Pm.ent pmt,{s1 with x:=z},⟨by show Sound z.H;rw[hz];exact unit_sound h1.snd,h1.t0,h1.tB,h1.lf,h1.al⟩,rfl⟩
theorem rooms_a{t s:Int}(hc:Cod m ca cn)(ht:0≤t∧t≤900000000000000):FnA Tryz.prog 57 [ptr pc] [cuA pc ca cn cc t s,ro m] (fun v As=>∃k t' s',v=.int .i64 k∧(1≤k∧k≤4000)∧(t≤t'∧t'≤t+4)∧As=[cuA pc ca cn cc t' s',ro m]):=by
 refine fnA_of (fun h=>fn57 (by simp) h) ?_
 repeat' (first
  |(refine k_L ?_;first|(refine k_ad ?_;refine g_ad rfl rfl ?_)|refine a_p rfl ?_|(refine g_c rfl (pick_a (t:=t) (s:=s) (n:=6) hc (by omega) (by omega)) (fun v As' hq=>?_);obtain⟨k,t1,s1,rfl,hk,ht1,rfl⟩:=hq)|(refine g_c rfl (pick_a (t:=t1) (s:=s1) hc (by omega) (by omega)) (fun v As' hq=>?_);obtain⟨k2,t2,s2,rfl,hk2,ht2,rfl⟩:=hq))
  |refine a_n ?_
  |(refine k_V ?_;first|refine v_seq ?_|refine v_reg ?_|refine v_bs ?_|refine v_ret ?_|refine v_skip ?_|(refine v_cd rfl (fun hb=>?_) (fun hb=>?_)<;>try(exfalso;omega)))
  |refine s_r ?_
  |refine b_r ?_)
 all_goals exact fa_r (fun _ _=>rfl) (Pm.ent pmt) ⟨_,_,_,rfl,by omega,by omega,rfl⟩
theorem l6begin_a{t s room:Int}(hr:1≤room∧room≤4000)(ht:0≤t∧t≤B):FnA Tryz.prog 56 [ptr pc,.int .i64 room] [cuA pc ca cn cc t s,ro m] (fun v As=>∃pb ph s',v=ptr pb∧DOk s' B∧As=dwA pb pc ph ca cn cc m s'):=by
 refine fnA_of (fun h=>fn56 (by simp) h) ?_
 repeat' (first
  |(refine k_L ?_;first|refine a_p rfl ?_|(refine g_c rfl (l1fresh_a (As:=[]) hr) (fun v As' hq=>?_);obtain⟨ph,z,rfl,rfl,hz⟩:=hq)|(refine a_nw rfl rfl (fun pb=>?_)))
  |refine a_n ?_
  |(refine k_V ?_;first|refine v_seq ?_|refine v_reg ?_|refine v_ret ?_))
 refine fa_r (As':=dwA pb pc ph ca cn cc m ⟨t,s,z,⟨none,0⟩,[],400⟩) (fun _ _=>rfl) ?_ ⟨pb,ph,_,rfl,⟨by show Sound z.H;rw[hz];exact new_heap_sound hr,ht.1,ht.2,by show(0:Int)≤400;omega,by simp⟩,rfl⟩
 refine Ent.trans (ent_new (f:=av) (size:=5)) ?_
 exact Pm.ent pmt
end
section
variable {pb pc ph:Nat} {ca:Option Addr} {cn cc:Nat} {m:Mem} {s1:DW} {B:Int}
theorem heap_a{t s:Int}(hc:Cod m ca cn)(ht:0≤t∧t≤100000000000000):FnA Tryz.prog 24 [ptr pc] [cuA pc ca cn cc t s,ro m] (fun v As=>∃pb ph s',v=ptr ph∧DOk s' (t+6000)∧As=dwA pb pc ph ca cn cc m s'):=by
 refine fnA_of (fun h=>fn24 (by simp) h) ?_
 refine v_seq (v_reg ?_)
 repeat' (first
  |(refine k_L ?_;refine a_p rfl ?_)
  |refine a_n ?_
  |refine s_n ?_)
 refine v_seq (v_reg ?_)
 repeat' (first
  |(refine k_L ?_;first|refine a_p rfl ?_|(refine g_c rfl (rooms_a (t:=t) (s:=s) hc (by omega)) (fun v As' hq=>?_);obtain⟨rm,t1,s1,rfl,hrm,ht1,rfl⟩:=hq)|(refine g_c rfl (l6begin_a (t:=t1) (s:=s1) (B:=t+4) hrm (by omega)) (fun v As' hq=>?_);obtain⟨pb,ph,s1,rfl,h1,rfl⟩:=hq))
  |refine a_n ?_
  |refine s_n ?_)
 refine v_seq (v_reg ?_)
 repeat' (first
  |(refine k_L ?_;first|refine a_p rfl ?_|(refine g_c rfl (pick_d h1 hc (by omega) (by omega)) (fun v As' hq=>?_);obtain⟨f,s1,rfl,hf,h1,rfl⟩:=hq))
  |refine a_n ?_
  |refine s_n ?_)
 repeat' (first
  |(refine k_L ?_;first|(refine k_ad ?_;refine g_ad rfl rfl ?_)|refine a_p rfl ?_|(refine g_c rfl (pick_d h1 hc (by omega) (by omega)) (fun v As' hq=>?_);obtain⟨k,s1,rfl,hk,h1,rfl⟩:=hq))
  |refine a_n ?_
  |(refine k_V ?_;first|refine v_seq ?_|refine v_reg ?_)
  |refine s_n ?_)
 --some acts
 refine v_via (fun S As=>∃s,DOk s (t+4900)∧leA [(0,SV.v (ptr pc)),(3,SV.v (ptr pb)),(4,SV.v (.int .i64 f))] S∧Ent As (dwA pb pc ph ca cn cc m s)) ?_ ?_
 ·refine v_blk ?_
  refine v_loop (fun q:Int×DW=>[(0,SV.v (ptr pc)),(3,SV.v (ptr pb)),(4,SV.v (.int .i64 f)),(5,SV.v (.int .i64 q.1))]) (fun q=>dwA pb pc ph ca cn cc m q.2) (fun k q=>(k:Int)=q.1∧(0≤q.1∧q.1≤8)∧DOk q.2 (t+4900-600*q.1)) ⟨(1+k).toNat,(1+k,s1),⟨rfl,rfl,rfl,rfl,trivial⟩,Pm.ent pmt,show(((1+k).toNat:Nat):Int)=1+k by omega,by show 0≤1+k∧1+k≤8;omega,h1.up (by show _≤t+4900-600*(1+k);omega)⟩ ?_
  rintro k ⟨i,s1⟩ ⟨hk0,hi,h1⟩
  dsimp only at hk0 hi h1⊢
  by_cases hin:i>0
  ·repeat' (first
    |(refine k_L ?_;first|(refine k_su ?_;refine g_su rfl rfl ?_)|refine a_p rfl ?_|(refine g_c rfl (some_d h1 hc (by omega)) (fun v As' hq=>?_);obtain⟨s1,h1,rfl⟩:=hq))
    |refine a_n ?_
    |(refine k_V ?_;first|refine v_seq ?_|refine v_reg ?_|refine v_br ?_|refine v_skip ?_|(refine v_cd rfl (fun hb=>?_) (fun hb=>?_)<;>try(exfalso;omega)))
    |refine s_n ?_)
   all_goals exact⟨(i-1).toNat,(i-1,s1),by omega,⟨rfl,rfl,rfl,rfl,trivial⟩,Pm.ent pmt,by show(((i-1).toNat:Nat):Int)=i-1;omega,⟨by show 0≤i-1;omega,by show i-1≤8;omega⟩,h1.up (by show _≤t+4900-600*(i-1);omega)⟩
  ·repeat' (first
    |(refine k_L ?_;refine a_p rfl ?_)
    |refine a_n ?_
    |(refine k_V ?_;first|refine v_seq ?_|refine v_reg ?_|refine v_exit ?_|(refine v_cd rfl (fun hb=>?_) (fun hb=>?_)<;>try(exfalso;omega)))
    |refine s_n ?_
    |refine s_e ?_
    |refine b_e ?_)
   exact⟨s1,h1.up (by omega),⟨rfl,rfl,rfl,trivial⟩,Pm.ent pmt⟩
 rintro S As ⟨s1,h1,hS,hE⟩
 refine VA.ent hE (v_weak _ hS ?_)
 clear hS hE S As
 refine v_seq (v_via (fun S As=>∃s,DOk s (t+4910)∧leA [(0,SV.v (ptr pc)),(3,SV.v (ptr pb)),(4,SV.v (.int .i64 f))] S∧Ent As (dwA pb pc ph ca cn cc m s)) ?_ ?_)
 ·repeat' (first
   |(refine k_L ?_;first|refine a_p rfl ?_|(refine k_l ?_;refine g_l rfl ?_)|(refine g_c rfl (pick_d h1 hc (by omega) (by omega)) (fun v As' hq=>?_);obtain⟨k,s1,rfl,hk,h1,rfl⟩:=hq))
   |refine a_n ?_
   |(refine k_V ?_;first|refine v_seq ?_|refine v_reg ?_|refine v_ret ?_|refine v_skip ?_|(refine v_cd rfl (fun hb=>?_) (fun hb=>?_)<;>try(exfalso;omega)))
   |refine s_n ?_
   |refine s_r ?_)
  ·exact fa_r (fun _ _=>rfl) (Pm.ent pmt) ⟨pb,ph,s1,rfl,h1.up (by omega),rfl⟩
  ·exact⟨s1,h1.up (by omega),⟨rfl,rfl,rfl,trivial⟩,Pm.ent pmt⟩
 rintro S As ⟨s1,h1,hS,hE⟩
 refine VA.ent hE (v_weak _ hS ?_)
 clear hS hE S As
 refine v_seq (v_via (fun S As=>∃s,DOk s (t+4910)∧leA [(0,SV.v (ptr pc)),(3,SV.v (ptr pb)),(4,SV.v (.int .i64 f))] S∧Ent As (dwA pb pc ph ca cn cc m s)) ?_ ?_)
 ·repeat' (first
   |(refine k_L ?_;first|refine a_p rfl ?_|(refine k_l ?_;refine g_l rfl ?_)|(refine g_c rfl (begin_d h1 hb) (fun v As' hq=>?_);obtain⟨s1,h1,hph,rfl⟩:=hq))
   |refine a_n ?_
   |(refine k_V ?_;first|refine v_seq ?_|refine v_reg ?_|refine v_skip ?_|(refine v_cd rfl (fun hb=>?_) (fun hb=>?_)<;>try(exfalso;omega)))
   |refine s_n ?_)
  all_goals exact⟨s1,h1.up (by omega),⟨rfl,rfl,rfl,trivial⟩,Pm.ent pmt⟩
 rintro S As ⟨s1,h1,hS,hE⟩
 refine VA.ent hE (v_weak _ hS ?_)
 clear hS hE S As
 refine v_seq (v_via (fun S As=>∃s,DOk s (t+4910)∧leA [(0,SV.v (ptr pc)),(3,SV.v (ptr pb)),(4,SV.v (.int .i64 f))] S∧Ent As (dwA pb pc ph ca cn cc m s)) ?_ ?_)
 ·refine v_seq (v_reg ?_)
  repeat' (first
   |(refine k_L ?_;refine a_p rfl ?_)
   |refine a_n ?_
   |refine s_n ?_)
  refine v_blk ?_
  refine v_loop (fun q:Int×DW=>[(0,SV.v (ptr pc)),(3,SV.v (ptr pb)),(4,SV.v (.int .i64 f)),(6,SV.v (.int .i64 q.1))]) (fun q=>dwA pb pc ph ca cn cc m q.2) (fun k q=>(k:Int)=20000-q.1∧(0≤q.1∧q.1≤20000)∧DOk q.2 (t+4910)) ⟨20000,(0,s1),⟨rfl,rfl,rfl,rfl,trivial⟩,Pm.ent pmt,by show((20000:Nat):Int)=20000-0;omega,by show(0:Int)≤0∧(0:Int)≤20000;omega,h1.up (by omega)⟩ ?_
  rintro k ⟨i,s1⟩ ⟨hk0,hi,h1⟩
  dsimp only at hk0 hi h1⊢
  repeat' (first
   |(refine k_L ?_;first|(refine k_ad ?_;refine g_ad rfl rfl ?_)|refine a_p rfl ?_|(refine k_g ?_;first|refine a_gy rfl rfl ?_|refine a_gn rfl rfl ?_|(refine a_gd rfl (fun hb=>?_) (fun hb=>?_)<;>try(exfalso;omega))|(refine a_gne rfl (fun hb=>?_) (fun hb=>?_)<;>try(exfalso;omega)))|(refine k_l ?_;refine g_l rfl ?_)|(refine g_c rfl (begin_d h1 hb) (fun v As' hq=>?_);obtain⟨s1,h1,hph,rfl⟩:=hq)|(refine g_c rfl (unit_d h1 hph) (fun v As' hq=>?_);obtain⟨s1,h1,rfl⟩:=hq)|(refine g_c rfl (unit_d h1 hb) (fun v As' hq=>?_);obtain⟨s1,h1,rfl⟩:=hq))
   |refine a_n ?_
   |(refine k_V ?_;first|refine v_seq ?_|refine v_reg ?_|refine v_bs ?_|refine v_exit ?_|refine v_skip ?_|refine v_cf rfl ?_|(refine v_cd rfl (fun hb=>?_) (fun hb=>?_)<;>try(exfalso;omega)))
   |refine s_n ?_
   |refine s_e ?_
   |refine b_e ?_)
  all_goals first
   |exact⟨s1,h1.up (by omega),⟨rfl,rfl,rfl,trivial⟩,Pm.ent pmt⟩
   |exact⟨(20000-(i+1)).toNat,(i+1,s1),by omega,⟨rfl,rfl,rfl,rfl,trivial⟩,Pm.ent pmt,by show(((20000-(i+1)).toNat:Nat):Int)=20000-(i+1);omega,⟨by show 0≤i+1;omega,by show i+1≤20000;omega⟩,h1⟩
 rintro S As ⟨s1,h1,hS,hE⟩
 refine VA.ent hE (v_weak _ hS ?_)
 clear hS hE S As
 repeat' (first
  |(refine k_L ?_;first|refine a_p rfl ?_|(refine g_c rfl (pick_d h1 hc (by omega) (by omega)) (fun v As' hq=>?_);obtain⟨k,s1,rfl,hk,h1,rfl⟩:=hq))
  |refine a_n ?_
  |(refine k_V ?_;first|refine v_seq ?_|refine v_reg ?_)
  |refine s_n ?_)
 refine v_blk ?_
 refine v_loop (fun q:Int×DW=>[(0,SV.v (ptr pc)),(3,SV.v (ptr pb)),(7,SV.v (.int .i64 q.1))]) (fun q=>dwA pb pc ph ca cn cc m q.2) (fun k q=>(k:Int)=q.1∧(0≤q.1∧q.1≤6)∧DOk q.2 (t+5200-30*q.1)) ⟨k.toNat,(k,s1),⟨rfl,rfl,rfl,trivial⟩,Pm.ent pmt,show((k.toNat:Nat):Int)=k by omega,by show 0≤k∧k≤6;omega,h1.up (by show _≤t+5200-30*k;omega)⟩ ?_
 rintro k ⟨i,s1⟩ ⟨hk0,hi,h1⟩
 dsimp only at hk0 hi h1⊢
 by_cases hin:i>0
 ·repeat' (first
   |(refine k_L ?_;first|(refine k_su ?_;refine g_su rfl rfl ?_)|refine a_p rfl ?_|(refine k_l ?_;refine g_l rfl ?_)|(refine g_c rfl (pick_d h1 hc (by omega) (by omega)) (fun v As' hq=>?_);obtain⟨k,s1,rfl,hk,h1,rfl⟩:=hq)|(refine g_c rfl (act_d h1 hc (by omega)) (fun v As' hq=>?_);obtain⟨s1,h1,rfl⟩:=hq)|(refine g_c rfl (unit_d h1 hb) (fun v As' hq=>?_);obtain⟨s1,h1,rfl⟩:=hq))
   |refine a_n ?_
   |(refine k_V ?_;first|refine v_seq ?_|refine v_reg ?_|refine v_bs ?_|refine v_skip ?_|(refine v_cd rfl (fun hb=>?_) (fun hb=>?_)<;>try(exfalso;omega))|(refine v_cn rfl (fun hb=>?_) (fun hb=>?_)<;>try(exfalso;omega)))
   |refine s_n ?_)
  all_goals exact⟨(i-1).toNat,(i-1,s1),by omega,⟨rfl,rfl,rfl,trivial⟩,Pm.ent pmt,by show(((i-1).toNat:Nat):Int)=i-1;omega,⟨by show 0≤i-1;omega,by show i-1≤6;omega⟩,h1.up (by show _≤t+5200-30*(i-1);omega)⟩
 ·repeat' (first
   |(refine k_L ?_;first|refine a_p rfl ?_|(refine k_l ?_;refine g_l rfl ?_))
   |refine a_n ?_
   |(refine k_V ?_;first|refine v_seq ?_|refine v_reg ?_|refine v_ret ?_|refine v_exit ?_|(refine v_cd rfl (fun hb=>?_) (fun hb=>?_)<;>try(exfalso;omega))))
  exact fa_r (fun _ _=>rfl) (Pm.ent pmt) ⟨pb,ph,s1,rfl,h1.up (by omega),rfl⟩
end
end Go.Proofs.YtcjmodomfilagaaGreat.E
namespace Go.Proofs.YtcjmodomfilagaaGreat.E
open Go
noncomputable def e34:Env:=⟨Tryz.prog,[],26,[(6,9)]⟩
abbrev q4(a0:Nat)(a1:Nat)(a2:Nat)(a3:Nat):I:=⟨some a0,some (a1,false),.bin .neq (.tmp a2) (.tmp a3)⟩
noncomputable def c34:C:=
 .seq (.reg [zL 4]) (.seq (.seq (.reg [z3 6 0,zG 7 6,z3 8 1,zG 9 8,qD 10 7 9]) (.cond (.tmp 10) (.seq (.reg [zL 4]) .ret) .skip)) (.seq (.seq (.reg [z3 11 0,zG 12 11,zC 13 0]) (.block 0 (.loop (.seq (.reg [zQ 14 13 12]) (.seq (.cond (.tmp 14) .skip (.exit 0)) (.seq (.block 1 (.seq (.reg [z3 15 13,z3 5 15]) (.seq (.dreg 9 [z3 16 0,z3 17 5,z9 18 6 16 17,zA 19 6 18,z3 20 1,z3 21 5,z9 22 6 20
 21,zA 23 6 22,⟨some 24,none,.eqA true 6 (.tmp 19) (.tmp 23)⟩]) (.cond (.tmp 24) (.seq (.reg [zL 4]) .ret) .skip)))) (.reg [zN 25 13 1,z3 13 25]))))))) (.seq (.reg [ze 4]) .ret)))
theorem t34:Tryz.f34.body.bind (trC e34)=some c34:=by kernel_rfl
theorem r34:Tryz.f34.results.toList.mapM (trR Tryz.prog)=some [.tmp 4]:=by kernel_rfl
theorem fn34{args:List Value}{M:Mem}{post:Value→Mem→Prop}(hl:args.length≤26)(h:VC e34 c34 (fnQ [.tmp 4] post) (initS args 26) M):Fn Tryz.prog 34 args M post:=
 Fn.of' (E:=e34) Tryz.func34 t34 rfl r34 mixed hl h
noncomputable def e33:Env:=⟨Tryz.prog,[],26,[(6,9)]⟩
noncomputable def c33:C:=
 .seq (.reg [zL 4]) (.seq (.seq (.reg [z3 6 0,zG 7 6,z3 8 1,zG 9 8,qD 10 7 9]) (.cond (.tmp 10) (.seq (.reg [zL 4]) .ret) .skip)) (.seq (.seq (.reg [z3 11 0,zG 12 11,zC 13 0]) (.block 0 (.loop (.seq (.reg [zQ 14 13 12]) (.seq (.cond (.tmp 14) .skip (.exit 0)) (.seq (.block 1 (.seq (.reg [z3 15 13,z3 5 15]) (.seq (.dreg 9 [z3 16 0,z3 17 5,z9 18 3 16 17,zA 19 3 18,z3 20 1,z3 21 5,z9 22 3 20
 21,zA 23 3 22,⟨some 24,none,.eqA true 3 (.tmp 19) (.tmp 23)⟩]) (.cond (.tmp 24) (.seq (.reg [zL 4]) .ret) .skip)))) (.reg [zN 25 13 1,z3 13 25]))))))) (.seq (.reg [ze 4]) .ret)))
theorem t33:Tryz.f33.body.bind (trC e33)=some c33:=by kernel_rfl
theorem r33:Tryz.f33.results.toList.mapM (trR Tryz.prog)=some [.tmp 4]:=by kernel_rfl
theorem fn33{args:List Value}{M:Mem}{post:Value→Mem→Prop}(hl:args.length≤26)(h:VC e33 c33 (fnQ [.tmp 4] post) (initS args 26) M):Fn Tryz.prog 33 args M post:=
 Fn.of' (E:=e33) Tryz.func33 t33 rfl r33 mixed hl h
noncomputable def e35:Env:=⟨Tryz.prog,[],26,[(6,9)]⟩
noncomputable def c35:C:=
 .seq (.reg [zL 4]) (.seq (.seq (.reg [z3 6 0,zG 7 6,z3 8 1,zG 9 8,qD 10 7 9]) (.cond (.tmp 10) (.seq (.reg [zL 4]) .ret) .skip)) (.seq (.seq (.reg [z3 11 0,zG 12 11,zC 13 0]) (.block 0 (.loop (.seq (.reg [zQ 14 13 12]) (.seq (.cond (.tmp 14) .skip (.exit 0)) (.seq (.block 1 (.seq (.reg [z3 15 13,z3 5 15]) (.seq (.dreg 9 [z3 16 0,z3 17 5,z9 18 1 16 17,z5 19 1 18,z3 20 1,z3 21 5,z9 22 1 20
 21,z5 23 1 22,qD 24 19 23]) (.cond (.tmp 24) (.seq (.reg [zL 4]) .ret) .skip)))) (.reg [zN 25 13 1,z3 13 25]))))))) (.seq (.reg [ze 4]) .ret)))
theorem t35:Tryz.f35.body.bind (trC e35)=some c35:=by kernel_rfl
theorem r35:Tryz.f35.results.toList.mapM (trR Tryz.prog)=some [.tmp 4]:=by kernel_rfl
theorem fn35{args:List Value}{M:Mem}{post:Value→Mem→Prop}(hl:args.length≤26)(h:VC e35 c35 (fnQ [.tmp 4] post) (initS args 26) M):Fn Tryz.prog 35 args M post:=
 Fn.of' (E:=e35) Tryz.func35 t35 rfl r35 mixed hl h
noncomputable def e11:Env:=⟨Tryz.prog,[2,3,6,7],170,[]⟩
noncomputable def c11:C:=
 .seq (.reg [zZ 2 0,zZ 3 1,zL 4]) (.seq (.seq (.reg [z4 8 0 2,z5 9 1 8,z4 10 0 3,z5 11 1 10,qD 12 9 11,z3 13 12,zI 14 13 1 2,zK 15 13 1 14,zI 16 13 1 3,zK 17 13 1 16,q4 18 13 15 17,zO 19 13 18,z3 20 19,zI 21 20 2 2,zK 22 20 1 21,zI 23 20 2 3,zK 24 20 1 23,q4 25 20 22 24,zO 26 20 25,z3 27 26,zI 28 27 3 2,zK 29 27 1 28,zI 30 27 3 3,zK 31 27 1 30,qN 32 27 33 29 31,zf 33 27 32,zO 34 27 33,z3 35 34,
 zI 36 35 4 2,zK 37 35 1 36,q6 38 35 37,zI 39 35 4 3,zK 40 35 1 39,q6 41 35 40,q4 42 35 38 41,zO 43 35 42]) (.cond (.tmp 43) (.seq (.reg [zL 4]) .ret) .skip)) (.seq (.seq (.reg [z4 44 4 2,z5 45 1 44,zG 46 45,zC 47 0]) (.block 0 (.loop (.seq (.reg [zQ 48 47 46]) (.seq (.cond (.tmp 48) .skip (.exit 0)) (.seq (.block 1 (.seq (.reg [z3 49 47,z3 5 49]) (.seq (.reg [z4 50 4 2,z5 51 1 50,z3 52 5,z9
 53 8 51 52,zA 54 8 53,zX 6 0 0 0 0 0 0 0 0 0,z8 8 6 54]) (.seq (.reg [z4 55 4 3,z5 56 1 55,z3 57 5,z9 58 8 56 57,zA 59 8 58,zX 7 0 0 0 0 0 0 0 0 0,z8 8 7 59]) (.seq (.reg [z4 60 0 6,z5 61 1 60,z4 62 0 7,z5 63 1 62,qD 64 61 63,z3 65 64,zI 66 65 1 6,zK 67 65 1 66,zI 68 65 1 7,zK 69 65 1 68,q4 70 65 67 69,zO 71 65 70,z3 72 71,zI 73 72 2 6,zK 74 72 1 73,zI 75 72 2 7,zK 76 72 1 75,q4 77 72 74 76,zO
 78 72 77,z3 79 78,zI 80 79 3 6,zK 81 79 1 80,zI 82 79 3 7,zK 83 79 1 82,q4 84 79 81 83,zO 85 79 84,z3 86 85,zI 87 86 4 6,zK 88 86 1 87,zI 89 86 4 7,zK 90 86 1 89,q4 91 86 88 90,zO 92 86 91,z3 93 92,zI 94 93 5 6,zK 95 93 1 94,zI 96 93 5 7,zK 97 93 1 96,q4 98 93 95 97,zO 99 93 98,z3 100 99,zI 101 100 6 6,zK 102 100 1 101,zI 103 100 6 7,zK 104 100 1 103,q4 105 100 102 104,zO 106 100 105,z3 107 106,
 zI 108 107 7 6,zK 109 107 1 108,zI 110 107 7 7,zK 111 107 1 110,qN 112 107 34 109 111,zf 113 107 112,zO 114 107 113]) (.cond (.tmp 114) (.seq (.reg [zL 4]) .ret) .skip)))))) (.reg [zN 115 47 1,z3 47 115]))))))) (.seq (.reg [z4 116 5 2,z5 117 1 116,z4 118 5 3,z5 119 1 118,qA 120 117 119,z3 121 120,zE 122 121 6 2,zD 123 121 1 122,zE 124 121 6 3,zD 125 121 1 124,qC 126 121 123 125,zJ 127 121 126,
 z3 128 127,zE 129 128 7 2,zD 130 128 1 129,zE 131 128 7 3,zD 132 128 1 131,qC 133 128 130 132,zJ 134 128 133,z3 135 134,zE 136 135 8 2,zD 137 135 1 136,zE 138 135 8 3,zD 139 135 1 138,qm 140 135 35 137 139,zJ 141 135 140,z3 142 141,zE 143 142 9 2,zD 144 142 1 143,zE 145 142 9 3,zD 146 142 1 145,qC 147 142 144 146,zJ 148 142 147,z3 149 148,zE 150 149 10 2,zD 151 149 1 150,zE 152 149 10 3,zD 153
 149 1 152,qC 154 149 151 153,zJ 155 149 154,z3 156 155,zE 157 156 11 2,zD 158 156 1 157,zE 159 156 11 3,zD 160 156 1 159,qC 161 156 158 160,zJ 162 156 161,z3 163 162,zE 164 163 12 2,zD 165 163 1 164,zE 166 163 12 3,zD 167 163 1 166,qC 168 163 165 167,zJ 169 163 168,z3 4 169]) .ret)))
theorem t11:Tryz.f11.body.bind (trC e11)=some c11:=by kernel_rfl
theorem r11:Tryz.f11.results.toList.mapM (trR Tryz.prog)=some [.tmp 4]:=by kernel_rfl
theorem fn11{args:List Value}{M:Mem}{post:Value→Mem→Prop}(hl:args.length≤170)(h:VC e11 c11 (fnQ [.tmp 4] post) (initS args 170) M):Fn Tryz.prog 11 args M post:=
 Fn.of' (E:=e11) Tryz.func11 t11 rfl r11 mixed hl h
noncomputable def e3:Env:=⟨Tryz.prog,[3,7,8],129,[(18,23)]⟩
noncomputable def c3:C:=
 .seq (.reg [zL 2]) (.seq (.seq (.reg [z3 10 0,zG 11 10,zz 12 11 1048576]) (.cond (.tmp 12) (.seq (.reg [ze 2]) .ret) .skip)) (.seq (.reg [z3 13 0,zM 14 6 13,⟨some 3,none,.alloc true [.int .i64 0,.int .i64 0,.int .i64 0,.slice none 0 0,.slice none 0 0,.int .i64 0,.int .i64 0,.int .i64 0,.slice none 0 0,.int .i64 0,.int .i64 0,.int .i64 0,.int .i64 0]⟩,z8 13 3 14]) (.seq (.reg [zA 15 13 3,zM
 16 7 15,z3 4 16]) (.seq (.reg [zA 17 13 3,zM 18 8 17,z3 5 18]) (.seq (.seq (.reg [z3 19 4,zG 20 19,z4 21 4 3,z5 22 1 21,zG 23 22,qD 24 20 23,z3 25 24,zP 26 25 5,q6 27 25 26,zI 28 25 4 3,zK 29 25 1 28,q6 30 25 29,q4 31 25 27 30,zO 32 25 31]) (.cond (.tmp 32) (.seq (.reg [zL 2]) .ret) .skip)) (.seq (.seq (.reg [z3 33 4,zG 34 33,zC 35 0]) (.block 0 (.loop (.seq (.reg [zQ 36 35 34]) (.seq (.cond
 (.tmp 36) .skip (.exit 0)) (.seq (.block 1 (.seq (.reg [z3 37 35,z3 6 37]) (.seq (.reg [z3 38 4,z3 39 6,z9 40 1 38 39,z5 41 1 40,z3 42 41,zF 43 42 5,zF 44 42 6,zj 45 42 1 43 44,zD 46 42 1 45,q5 47 42 46,zJ 48 42 47]) (.cond (.tmp 48) (.seq (.reg [zL 2]) .ret) .skip)))) (.reg [zN 49 35 1,z3 35 49]))))))) (.seq (.reg [zA 50 13 3,zM 51 9 50,qw 7 0 0 0 0 0 0 0 0 0 0 0 0 0 0 0 0 0 0,z8 15 7 51])
 (.seq (.reg [zA 52 13 3,zM 53 10 52,qw 8 0 0 0 0 0 0 0 0 0 0 0 0 0 0 0 0 0 0,z8 15 8 53]) (.seq (.seq (.reg [z4 54 13 7,z5 55 1 54,z4 56 13 8,z5 57 1 56,qD 58 55 57,z3 59 58,zI 60 59 14 7,zK 61 59 1 60,zI 62 59 14 8,zK 63 59 1 62,q4 64 59 61 63,zO 65 59 64,z3 66 65,zI 67 66 0 7,qB 68 66 13 67,zI 69 66 0 8,qB 70 66 13 69,qN 71 66 11 68 70,zf 72 66 71,zO 73 66 72,z3 74 73,zI 75 74 0 7,zI 76 74 1
 75,zK 77 74 1 76,zI 78 74 1 3,zK 79 74 1 78,zI 80 74 13 7,zK 81 74 1 80,⟨some 82,some (74,false),.bin .sub (.tmp 79) (.tmp 81)⟩,q4 83 74 77 82,zO 84 74 83]) (.cond (.tmp 84) (.seq (.reg [zL 2]) .ret) .skip)) (.seq (.seq (.dreg 23 [z4 85 14 7,z5 86 1 85,z7 87 86 0,z3 88 87,zE 89 88 0 7,qT 90 88 13 89,⟨some 91,some (88,true),.qcall 12 [.tmp 90]⟩,qT 92 88 13 3,⟨some 93,some (88,true),.qcall 12
 [.tmp 92]⟩,zE 94 88 13 7,zD 95 88 1 94,⟨some 96,some (88,true),.bin .sub (.tmp 93) (.tmp 95)⟩,⟨some 97,some (88,true),.bin .gtr (.tmp 91) (.tmp 96)⟩,zJ 98 88 97,z3 99 98,zI 100 99 0 7,qB 101 99 13 100,⟨some 102,some (99,false),.qcall 13 [.tmp 101]⟩,zI 103 99 0 7,qB 104 99 13 103,⟨some 105,some (99,false),.qcall 14 [.tmp 104]⟩,q4 106 99 102 105,zO 107 99 106]) (.cond (.tmp 107) (.seq (.reg [zL
 2]) .ret) .skip)) (.seq (.seq (.reg [z4 108 1 3,z5 109 1 108,z3 9 109]) (.block 2 (.loop (.seq (.seq (.reg [z3 110 9,qb 111 110 0]) (.cond (.tmp 111) .skip (.exit 2))) (.seq (.block 3 (.seq (.seq (.reg [z4 114 13 7,z5 115 1 114,z7 116 115 0,z3 117 116,zE 118 117 14 7,zD 119 117 1 118,zW 120 117 119 0,zJ 121 117 120]) (.cond (.tmp 121) (.seq (.reg [z4 122 0 7,zA 123 13 122,zM 124 15 123,z7 125
 124 0,z3 2 125]) .ret) .skip)) (.reg [z4 126 0 7,zA 127 13 126,zM 128 9 127,z8 15 7 128]))) (.reg [z3 112 9,za 113 112 1,z3 9 113])))))) (.seq (.reg [zL 2]) .ret))))))))))))
theorem t3:Tryz.f3.body.bind (trC e3)=some c3:=by kernel_rfl
theorem r3:Tryz.f3.results.toList.mapM (trR Tryz.prog)=some [.tmp 2]:=by kernel_rfl
theorem fn3{args:List Value}{M:Mem}{post:Value→Mem→Prop}(hl:args.length≤129)(h:VC e3 c3 (fnQ [.tmp 2] post) (initS args 129) M):Fn Tryz.prog 3 args M post:=
 Fn.of' (E:=e3) Tryz.func3 t3 rfl r3 mixed hl h
noncomputable def e4:Env:=⟨Tryz.prog,[5,8,9,10,11],137,[]⟩
end Go.Proofs.YtcjmodomfilagaaGreat.E
namespace Go.Proofs.YtcjmodomfilagaaGreat.E
open Go
open Classical
theorem wWords_t{m:Mem}{d e:D}{xs:List Word}(hx:Has m [slA 3 wv d xs])(hy:Has m [slA 3 wv e xs]):Qt Tryz.prog 33 [.slice d.a xs.length d.cap,.slice e.a xs.length e.cap] m (.bool true):=by
 have hbd:xs.length≤140737488355328:=by obtain⟨a,l,s⟩:=hx;exact(kn_h bd_sl).out a s
 refine qt_of (fnA_of (fun h=>fn33 (by simp) h) ?_)
 repeat' (first
  |(refine k_L ?_;refine a_p rfl ?_)
  |refine a_n ?_
  |(refine k_V ?_;first|refine v_seq ?_|refine v_reg ?_|refine v_skip ?_|(refine v_cn rfl (fun hb=>?_) (fun hb=>?_)<;>try(exfalso;omega)))
  |refine s_n ?_)
 refine g_range xs.length (fun _:Unit=>[(0,.v (.slice d.a xs.length d.cap)),(1,.v (.slice e.a xs.length e.cap))]) (fun _=>[ro m]) (fun _ _=>True) () trivial (fun i _ hi _=>?_) (fun _ _=>?_)
 ·obtain⟨w,gw⟩:∃w,xs[i]?=some w:=⟨_,List.getElem?_eq_getElem hi⟩
  repeat' (first
   |(refine k_L ?_;first|refine a_p rfl ?_|(refine k_i ?_;refine g_i rfl rfl ?_)|(refine k_ls ?_;refine g_ls rfl ?_)|(refine a_i (e:=d) rfl rfl (kn_h (kn_ro hx (kn_h (bs_sl gw)))) (by omega) ?_)|(refine a_ls rfl (rs_h (rs_ro hx (rs_h (rs_sl (fun _=>rfl) gw)))) ?_))
   |refine a_n ?_
   |(refine k_V ?_;first|refine v_rv ?_|refine v_seq ?_|refine v_reg ?_|refine v_dreg ?_|refine v_skip ?_|(refine v_cond _ rfl (fun hb=>?_) (fun hb=>?_)))
   |refine s_r ?_
   |refine r_rt ?_)
  all_goals first
   |exact r_nx () trivial
   |(exfalso;simp at hb;done)
 ·repeat' (first
   |refine a_n ?_
   |(refine k_V ?_;refine v_rv ?_))
  exact fa_q (by simp) (fun _ _=>rfl) rfl
theorem wPairs_t{m:Mem}{d e:D}{xs:List Pair}(hx:Has m [slA 6 pv d xs])(hy:Has m [slA 6 pv e xs]):Qt Tryz.prog 34 [.slice d.a xs.length d.cap,.slice e.a xs.length e.cap] m (.bool true):=by
 have hbd:xs.length≤140737488355328:=by obtain⟨a,l,s⟩:=hx;exact(kn_h bd_sl).out a s
 refine qt_of (fnA_of (fun h=>fn34 (by simp) h) ?_)
 repeat' (first
  |(refine k_L ?_;refine a_p rfl ?_)
  |refine a_n ?_
  |(refine k_V ?_;first|refine v_seq ?_|refine v_reg ?_|refine v_skip ?_|(refine v_cn rfl (fun hb=>?_) (fun hb=>?_)<;>try(exfalso;omega)))
  |refine s_n ?_)
 refine g_range xs.length (fun _:Unit=>[(0,.v (.slice d.a xs.length d.cap)),(1,.v (.slice e.a xs.length e.cap))]) (fun _=>[ro m]) (fun _ _=>True) () trivial (fun i _ hi _=>?_) (fun _ _=>?_)
 ·obtain⟨w,gw⟩:∃w,xs[i]?=some w:=⟨_,List.getElem?_eq_getElem hi⟩
  repeat' (first
   |(refine k_L ?_;first|refine a_p rfl ?_|(refine k_i ?_;refine g_i rfl rfl ?_)|(refine a_i (e:=d) rfl rfl (kn_h (kn_ro hx (kn_h (bs_sl gw)))) (by omega) ?_)|(refine a_ls rfl (rs_h (rs_ro hx (rs_h (rs_sl (fun _=>rfl) gw)))) ?_)|(refine a_ls rfl (rs_h (rs_ro hy (rs_h (rs_sl (fun _=>rfl) gw)))) ?_))
   |refine a_n ?_
   |(refine k_V ?_;first|refine v_rv ?_|refine v_seq ?_|refine v_reg ?_|refine v_dreg ?_|refine v_skip ?_|(refine v_cond _ rfl (fun hb=>?_) (fun hb=>?_)))
   |refine s_r ?_
   |refine r_rt ?_)
  all_goals first
   |exact r_nx () trivial
   |(exfalso;simp at hb;done)
 ·repeat' (first
   |refine a_n ?_
   |(refine k_V ?_;refine v_rv ?_))
  exact fa_q (by simp) (fun _ _=>rfl) rfl
theorem wInts_t{m:Mem}{d e:D}{xs:List Int}(hx:Has m [slA 1 iv d xs])(hy:Has m [slA 1 iv e xs]):Qt Tryz.prog 35 [.slice d.a xs.length d.cap,.slice e.a xs.length e.cap] m (.bool true):=by
 have hbd:xs.length≤140737488355328:=by obtain⟨a,l,s⟩:=hx;exact(kn_h bd_sl).out a s
 refine qt_of (fnA_of (fun h=>fn35 (by simp) h) ?_)
 repeat' (first
  |(refine k_L ?_;refine a_p rfl ?_)
  |refine a_n ?_
  |(refine k_V ?_;first|refine v_seq ?_|refine v_reg ?_|refine v_skip ?_|(refine v_cn rfl (fun hb=>?_) (fun hb=>?_)<;>try(exfalso;omega)))
  |refine s_n ?_)
 refine g_range xs.length (fun _:Unit=>[(0,.v (.slice d.a xs.length d.cap)),(1,.v (.slice e.a xs.length e.cap))]) (fun _=>[ro m]) (fun _ _=>True) () trivial (fun i _ hi _=>?_) (fun _ _=>?_)
 ·obtain⟨w,gw⟩:∃w,xs[i]?=some w:=⟨_,List.getElem?_eq_getElem hi⟩
  repeat' (first
   |(refine k_L ?_;first|refine a_p rfl ?_|(refine k_l ?_;refine g_l rfl ?_)|(refine k_i ?_;refine g_i rfl rfl ?_)|(refine a_i (e:=d) rfl rfl (kn_h (kn_ro hx (kn_h (bs_sl gw)))) (by omega) ?_)|(refine a_l rfl (rd_h (rd_ro hx (rd_h (rd_sl (j:=0) (fun _=>rfl) gw rfl)))) ?_))
   |refine a_n ?_
   |(refine k_V ?_;first|refine v_seq ?_|refine v_reg ?_|refine v_dreg ?_|refine v_skip ?_|(refine v_cn rfl (fun hb=>?_) (fun hb=>?_)<;>try(exfalso;omega))))
  all_goals first
   |exact r_nx () trivial
   |(exfalso;simp at hb;done)
 ·repeat' (first
   |refine a_n ?_
   |(refine k_V ?_;refine v_rv ?_))
  exact fa_q (by simp) (fun _ _=>rfl) rfl
theorem has_1{m:Mem}{A B C:Asr}(h:Has m [A,B,C]):Has m [A]∧Has m [B]∧Has m [C]:=by
 refine⟨h.ent (Pm.ent pmt),h.ent (Pm.ent pmt),h.ent (Pm.ent pmt)⟩
theorem has_pr{m:Mem}{cd:D}{ys:List CS}{i:Nat}{y:CS}(h:Has m [clA cd ys])(hi:ys[i]?=some y):Has m [slA 6 pv y.d y.c.pairs]:=by
 refine h.ent ((cl_split hi).trans ?_)
 exact Pm.ent pmt
theorem wHeap_t{m:Mem}{x y:HX}(hx:Has m x.body)(hy:Has m y.body)(e:x.H=y.H):Qt Tryz.prog 11 [x.v,y.v] m (.bool true):=by
 obtain⟨x1,x2,x3⟩:=has_1 hx
 obtain⟨y1,y2,y3⟩:=has_1 hy
 have er:y.regs=x.regs:=(congrArg Heap.regs e).symm
 have eg:y.gray=x.gray:=(congrArg Heap.gray e).symm
 have ec:x.H.cells=y.H.cells:=congrArg Heap.cells e
 have el:x.xs.length=y.xs.length:=by have:=congrArg List.length ec;rw[x.len,y.len]at this;exact this
 rw[er]at y1
 rw[eg]at y3
 have a1:x.hdr.room=y.hdr.room:=congrArg Heap.room e
 have a2:x.hdr.used=y.hdr.used:=congrArg Heap.used e
 have a3:x.hdr.born=y.hdr.born:=congrArg Heap.born e
 have a4:x.hdr.phase=y.hdr.phase:=congrArg Heap.phase e
 have a5:x.hdr.hand=y.hdr.hand:=congrArg Heap.hand e
 have a6:x.hdr.sub=y.hdr.sub:=congrArg Heap.sub e
 have a7:x.hdr.per=y.hdr.per:=congrArg Heap.per e
 have a8:x.hdr.start=y.hdr.start:=congrArg Heap.start e
 have a9:x.hdr.rounds=y.hdr.rounds:=congrArg Heap.rounds e
 have a10:x.hdr.forced=y.hdr.forced:=congrArg Heap.forced e
 have n1:x.hdr.nc=x.xs.length:=rfl
 have n2:y.hdr.nc=y.xs.length:=rfl
 have hbd:x.xs.length≤140737488355328:=by obtain⟨a,l,s⟩:=x2;exact(kn_h kb_cl).out a s
 refine qt_of (fnA_of (fun h=>fn11 (by simp) h) ?_)
 have q1:∀m',star [ro m] m'→Qt Tryz.prog 33 [.slice x.rd.a x.regs.length x.rd.cap,.slice y.rd.a y.regs.length y.rd.cap] m' (.bool true):=fun m' hm=>by
  rw[er];exact wWords_t (x1.le (ro_of hm (F:=[]) ⟨fun _ h=>h⟩)) (y1.le (ro_of hm (F:=[]) ⟨fun _ h=>h⟩))
 have q3:∀m',star [ro m] m'→Qt Tryz.prog 35 [.slice x.gd.a x.gray.length x.gd.cap,.slice y.gd.a y.gray.length y.gd.cap] m' (.bool true):=fun m' hm=>by
  rw[eg];exact wInts_t (x3.le (ro_of hm (F:=[]) ⟨fun _ h=>h⟩)) (y3.le (ro_of hm (F:=[]) ⟨fun _ h=>h⟩))
 repeat' (first
  |(refine k_L ?_;first|refine a_p rfl ?_|(refine k_g ?_;first|refine a_gy rfl rfl ?_|(refine a_gne rfl (fun hb=>?_) (fun hb=>?_)<;>try(exfalso;omega)))|(refine k_bx ?_;refine a_bx rfl rfl ?_)|(refine k_c ?_;refine a_cq rfl (fun m hm=>q1 m hm) ?_))
  |refine a_n ?_
  |(refine k_V ?_;first|refine v_seq ?_|refine v_reg ?_|refine v_skip ?_|(refine v_cn rfl (fun hb=>?_) (fun hb=>?_)<;>try(exfalso;omega)))
  |refine s_n ?_)
 refine g_range x.xs.length (fun _:Unit=>[(2,.box x.row),(3,.box y.row)]) (fun _=>[ro m]) (fun _ _=>True) () trivial (fun i _ hi _=>?_) (fun _ _=>?_)
 ·obtain⟨u,gu,gc⟩:=HX.at (x:=x) (i:=i) (by omega)
  obtain⟨v,gv,gc'⟩:=HX.at (x:=y) (i:=i) (by omega)
  have euv:u.c=v.c:=by
   rw[ec]at gc
   exact Option.some.inj (gc.symm.trans gc')
  have hu:=has_pr x2 gu
  have hv:=has_pr y2 gv
  have q2:∀m',star [ro m] m'→Qt Tryz.prog 34 [.slice u.d.a u.c.pairs.length u.d.cap,.slice v.d.a v.c.pairs.length v.d.cap] m' (.bool true):=fun m' hm=>by
   rw[←euv]at hv⊢
   exact wPairs_t (hu.le (ro_of hm (F:=[]) ⟨fun _ h=>h⟩)) (hv.le (ro_of hm (F:=[]) ⟨fun _ h=>h⟩))
  have b1:u.c.state=v.c.state:=by rw[euv]
  have b2:u.c.kind=v.c.kind:=by rw[euv]
  have b3:u.c.weak=v.c.weak:=by rw[euv]
  have b4:u.c.last=v.c.last:=by rw[euv]
  have b5:u.c.born=v.c.born:=by rw[euv]
  have b6:u.c.color=v.c.color:=by rw[euv]
  have b7:u.c.to=v.c.to:=by rw[euv]
  repeat' (first
   |(refine k_L ?_;first|refine a_p rfl ?_|(refine k_g ?_;first|refine a_gy rfl rfl ?_|(refine a_gne rfl (fun hb=>?_) (fun hb=>?_)<;>try(exfalso;omega)))|(refine k_st ?_;refine g_sw rfl rfl rfl rfl (Nat.le_of_ble_eq_true rfl) ?_)|(refine k_al ?_;refine a_al ?_)|(refine k_c ?_;refine a_cq rfl (fun m hm=>q2 m hm) ?_)|(refine a_i (e:=x.cd) rfl rfl (kn_h (kn_ro x2 (kn_h (kn_cl gu)))) (by omega) ?_)|(refine a_i (e:=y.cd) rfl rfl (kn_h (kn_ro y2 (kn_h (kn_cl gv)))) (by omega) ?_)|(refine a_ls rfl (rs_h (rs_ro x2 (rs_h (rs_cl gu)))) ?_)|(refine a_ls rfl (rs_h (rs_ro y2 (rs_h (rs_cl gv)))) ?_))
   |refine a_n ?_
   |(refine k_V ?_;first|refine v_seq ?_|refine v_reg ?_|refine v_skip ?_|refine v_cf rfl ?_)
   |refine sk_zero ?_
   |refine sk_succ ?_
   |refine wk_nil ?_
   |refine wk_cons ?_)
  all_goals exact r_nx () trivial
 ·repeat' (first
   |(refine k_L ?_;first|refine a_p rfl ?_|(refine k_g ?_;first|refine a_gy rfl rfl ?_|(refine a_gd rfl (fun hb=>?_) (fun hb=>?_)<;>try(exfalso;omega)))|(refine k_c ?_;refine a_cq rfl (fun m hm=>q3 m hm) ?_))
   |refine a_n ?_
   |(refine k_V ?_;first|refine v_seq ?_|refine v_reg ?_|refine v_ret ?_))
  exact fa_q (by simp) (fun _ _=>rfl) (by rw[a10];simp)
noncomputable def Heap.settleA(H:Heap):Heap:=if okH H=0 then H.settleH else Heap.nil
noncomputable def settleG(H:Heap):Int:=if okH H=0 then(g1 H H.cells.length:Nat)else 0
noncomputable def settleD(H:Heap):Int:=if okH H=0 then(d2 H H.cells.length:Nat)else 0
def HX.vn2(x:HX)(n k:Int):Value:=.agg (x.row++[Value.int .i64 n,Value.int .i64 k]).toArray
def outAN2(m:Mem)(K:Heap)(n k:Int)(v:Value)(As:List Asr):Prop:=∃E,(∃y:HX,v=y.vn2 n k∧y.H=K∧E=y.body)∧As=E++[ro m]
theorem implSettle_a{m:Mem}{x:HX}(h:Has m x.body):FnA Tryz.prog 9 [x.v] [ro m] (outAN2 m x.H.settleA (settleG x.H) (settleD x.H)):=by
 unfold Heap.settleA settleG settleD
 refine fnA_of (fun h=>fn9 (by simp) h) ?_
 by_cases hS:okH x.H=0
 ·have hs1:=(okH_sound x.H).1 hS
  rw[if_pos hS,if_pos hS,if_pos hS]
  repeat' (first
   |(refine k_L ?_;first|refine a_p rfl ?_|(refine k_al ?_;refine a_al ?_)|(refine k_bx ?_;refine a_bx rfl rfl ?_)|(refine k_c ?_;refine a_cq rfl (fun m hm=>qt_e (sound_q (x:=x) (has_g h hm)) (congrArg Value.bool (decide_eq_true hS))) ?_)|(refine g_c rfl (twin_a h hs1.r1 hs1.r2) (fun v As' hq=>?_);obtain⟨b,z,rfl,rfl,hz⟩:=hq))
   |refine a_n ?_
   |(refine k_V ?_;first|refine v_seq ?_|refine v_reg ?_|refine v_skip ?_|refine v_cf rfl ?_))
  refine g_c rfl (settle_a (x:=z) (by rw[hz];exact hs1)) (fun v As' hq=>?_)
  obtain⟨u,rfl,rfl,hu⟩:=hq
  rw[hz]at hu⊢
  generalize(g1 x.H x.H.cells.length)=ng
  generalize(d2 x.H x.H.cells.length)=nd
  refine a_p rfl ?_
  refine a_p (sv:=.v (.int .i64 ng)) rfl ?_
  refine a_p (sv:=.v (.int .i64 nd)) rfl ?_
  refine a_p rfl ?_
  refine a_p rfl (a_n ?_)
  repeat' (first
   |refine a_n ?_
   |(refine k_V ?_;first|refine v_seq ?_|refine v_reg ?_))
  refine a_p rfl ?_
  refine a_p rfl ?_
  repeat' (first
   |(refine k_L ?_;(refine k_ls ?_;refine g_ls rfl ?_))
   |refine a_n ?_)
  refine a_p rfl ?_
  refine a_p rfl ?_
  refine a_p (sv:=.v (u.vn2 ng nd)) rfl ?_
  repeat' (first
   |(refine k_L ?_;(refine k_st ?_;refine g_sw rfl rfl rfl rfl (Nat.le_of_ble_eq_true rfl) ?_))
   |refine a_n ?_
   |(refine k_V ?_;refine v_ret ?_)
   |refine sk_zero ?_
   |refine sk_succ ?_
   |refine wk_nil ?_
   |refine wk_cons ?_)
  exact fa_r (As':=u.body++[ro m]) (fun _ _=>rfl) (Pm.ent pmt) ⟨_,⟨u,rfl,hu,rfl⟩,rfl⟩
 ·rw[if_neg hS,if_neg hS,if_neg hS]
  repeat' (first
   |(refine k_L ?_;first|refine a_p rfl ?_|(refine k_st ?_;refine g_sw rfl rfl rfl rfl (Nat.le_of_ble_eq_true rfl) ?_)|(refine k_al ?_;refine a_al ?_)|(refine k_bx ?_;refine a_bx rfl rfl ?_)|(refine k_c ?_;refine a_cq rfl (fun m hm=>qt_e (sound_q (x:=x) (has_g h hm)) (congrArg Value.bool (decide_eq_false hS))) ?_))
   |refine a_n ?_
   |(refine k_V ?_;first|refine v_seq ?_|refine v_reg ?_|refine v_ret ?_|refine v_ct rfl ?_)
   |refine s_r ?_
   |refine sk_zero ?_
   |refine sk_succ ?_
   |refine wk_nil ?_
   |refine wk_cons ?_)
  exact fa_r (As':=HX.nil.body++[ro m]) (fun _ _=>rfl) nil_ent ⟨_,⟨HX.nil,rfl,rfl,rfl⟩,rfl⟩
theorem specSettle_a{m:Mem}{x:HX}(h:Has m x.body):FnA Tryz.prog 10 [x.v] [ro m] (outAN2 m x.H.settleA (settleG x.H) (settleD x.H)):=by
 unfold Heap.settleA settleG settleD
 refine fnA_of (fun h=>fn10 (by simp) h) ?_
 by_cases hS:okH x.H=0
 ·have hs1:=(okH_sound x.H).1 hS
  rw[if_pos hS,if_pos hS,if_pos hS]
  repeat' (first
   |(refine k_L ?_;first|refine a_p rfl ?_|(refine k_al ?_;refine a_al ?_)|(refine k_bx ?_;refine a_bx rfl rfl ?_)|(refine k_c ?_;refine a_cq rfl (fun m hm=>qt_e (specHeapOk_q (x:=x) (has_g h hm)) (by rw[hS])) ?_)|(refine g_c rfl (l1copy_a h hs1.r1 hs1.r2) (fun v As' hq=>?_);obtain⟨b,z,rfl,rfl,hz⟩:=hq))
   |refine a_n ?_
   |(refine k_V ?_;first|refine v_seq ?_|refine v_reg ?_|refine v_skip ?_|refine v_cf rfl ?_))
  refine g_c rfl (l4settle_a (x:=z) (by rw[hz];exact hs1)) (fun v As' hq=>?_)
  obtain⟨u,rfl,rfl,hu⟩:=hq
  rw[hz]at hu⊢
  generalize(g1 x.H x.H.cells.length)=ng
  generalize(d2 x.H x.H.cells.length)=nd
  refine a_p rfl ?_
  refine a_p (sv:=.v (.int .i64 ng)) rfl ?_
  refine a_p (sv:=.v (.int .i64 nd)) rfl ?_
  refine a_p rfl ?_
  refine a_p rfl (a_n ?_)
  repeat' (first
   |refine a_n ?_
   |(refine k_V ?_;first|refine v_seq ?_|refine v_reg ?_))
  refine a_p rfl ?_
  refine a_p rfl ?_
  repeat' (first
   |(refine k_L ?_;(refine k_ls ?_;refine g_ls rfl ?_))
   |refine a_n ?_)
  refine a_p rfl ?_
  refine a_p rfl ?_
  refine a_p (sv:=.v (u.vn2 ng nd)) rfl ?_
  repeat' (first
   |(refine k_L ?_;(refine k_st ?_;refine g_sw rfl rfl rfl rfl (Nat.le_of_ble_eq_true rfl) ?_))
   |refine a_n ?_
   |(refine k_V ?_;refine v_ret ?_)
   |refine sk_zero ?_
   |refine sk_succ ?_
   |refine wk_nil ?_
   |refine wk_cons ?_)
  exact fa_r (As':=u.body++[ro m]) (fun _ _=>rfl) (Pm.ent pmt) ⟨_,⟨u,rfl,hu,rfl⟩,rfl⟩
 ·rw[if_neg hS,if_neg hS,if_neg hS]
  repeat' (first
   |(refine k_L ?_;first|refine a_p rfl ?_|(refine k_st ?_;refine g_sw rfl rfl rfl rfl (Nat.le_of_ble_eq_true rfl) ?_)|(refine k_al ?_;refine a_al ?_)|(refine k_bx ?_;refine a_bx rfl rfl ?_)|(refine k_c ?_;refine a_cq rfl (fun m hm=>specHeapOk_q (x:=x) (has_g h hm)) ?_))
   |refine a_n ?_
   |(refine k_V ?_;first|refine v_seq ?_|refine v_reg ?_|refine v_ret ?_|(refine v_cn rfl (fun hb=>?_) (fun hb=>?_)<;>try(exfalso;omega)))
   |refine s_r ?_
   |refine sk_zero ?_
   |refine sk_succ ?_
   |refine wk_nil ?_
   |refine wk_cons ?_)
  exact fa_r (As':=HX.nil.body++[ro m]) (fun _ _=>rfl) nil_ent ⟨_,⟨HX.nil,rfl,rfl,rfl⟩,rfl⟩
theorem reachL_iff{H:Heap}{i:Nat}(hi:i<H.cells.length):(reachL H)[i]?=some true↔Reached H i:=by
 unfold reachL
 rw[List.getElem?_map,List.getElem?_range hi]
 simp
theorem held_reached{H:Heap}(h:Sound H){j:Nat}(hj:Held H j):Reached H j:=by
 induction hj with
 |reg h1 h2=>exact .reg h1 h2
 |due h1 h2=>exact .root h1 ⟨last2 h.r2 h1 h2,.inr h2⟩
 |key _ h2 h3 h4 h5 ih=>exact .pair ih h2 h3 (.inl rfl) h5
 |val _ h2 h3 h4 _ h6 ih ih2=>exact .pair ih h2 h3 (.inr rfl) h6
noncomputable def Cell.msr(c:Cell):Int:=c.pairs.length+(if c.last=1 then 1 else 0)
noncomputable def msrN(cs:List Cell):Int:=(cs.map Cell.msr).sum
theorem msr_set:∀{cs:List Cell} {i:Nat} {c d:Cell},cs[i]?=some c→msrN (cs.set i d)=msrN cs-c.msr+d.msr
 |[],i,c,d,h=>by simp at h
 |a::r,0,c,d,h=>by
  simp only[List.getElem?_cons_zero,Option.some.injEq]at h
  subst h
  simp only[msrN,List.set_cons_zero,List.map_cons,List.sum_cons];omega
 |a::r,i+1,c,d,h=>by
  simp only[List.getElem?_cons_succ]at h
  have:=msr_set (d:=d) h
  simp only[msrN,List.set_cons_succ,List.map_cons,List.sum_cons]at this⊢;omega
theorem msr_nn:∀cs:List Cell,0≤msrN cs
 |[]=>by simp[msrN]
 |c::r=>by
  have:=msr_nn r
  have hc:0≤c.msr:=by unfold Cell.msr;split<;>omega
  simp only[msrN,List.map_cons,List.sum_cons]at this⊢;omega
theorem msr_units:∀cs:List Cell,(∀c,c∈cs→c.state≠1→Bare c)→msrN cs≤unitsN cs
 |[],_=>by simp[msrN,unitsN]
 |c::r,h=>by
  have:=msr_units r (fun d hd=>h d (by simp[hd]))
  have hc:c.msr≤c.units:=by
   unfold Cell.msr Cell.units
   by_cases e:c.state=1
   ·rw[if_pos e];split<;>omega
   ·rw[if_neg e]
    obtain⟨_,_,b3,_,_,b6⟩:=h c (by simp) e
    rw[b6,if_neg (by omega)];simp
  simp only[msrN,unitsN,List.map_cons,List.sum_cons]at this⊢;omega
theorem msr_used{H:Heap}(h:Sound H):msrN H.cells≤H.used:=by
 have:=msr_units H.cells (fun c hc hs=>by
  obtain⟨i,hi⟩:=List.getElem?_of_mem hc
  exact h.r2.bare hi hs)
 have:=h.r3.1
 omega
theorem p1_msr(H:Heap):∀i:Nat,i≤H.cells.length→msrN (p1 H i).cells=msrN H.cells-g1 H i
 |0,_=>by simp[p1,g1]
 |i+1,hi=>by
  have ih:=p1_msr H i (by omega)
  obtain⟨a,b,_⟩:=p1_ok H i (by omega)
  have hb:=b i (Nat.le_refl _)
  simp only[p1,g1]
  split
  ·show msrN ((p1 H i).cells.set i _)=_
   rw[msr_set (get_at (H:=p1 H i) (by rw[a.len];omega)),hb]
   have hk:=kept_len H (H.getC i) (H.getC i).pairs
   unfold Cell.msr
   simp only
   omega
  ·exact ih
theorem p2_msr(H:Heap):∀i:Nat,i≤H.cells.length→msrN (p2 H i).cells=msrN H.cells-g1 H H.cells.length-d2 H i
 |0,_=>by
  have:=p1_msr H H.cells.length (Nat.le_refl _)
  simp only[p2,d2];omega
 |i+1,hi=>by
  have ih:=p2_msr H i (by omega)
  obtain⟨a,b,_⟩:=p2_ok H i (by omega)
  have hb:=b i (Nat.le_refl _)
  have hl:=(p1_ok H _ (Nat.le_refl _)).2.2.1 i
  simp only[p2,d2]
  split
  ·rename_i e
   show msrN ((p2 H i).cells.set i _)=_
   rw[msr_set (get_at (H:=p2 H i) (by rw[a.len];omega))]
   have e1:((p2 H i).getC i).last=1:=by rw[hb,hl];exact e.2
   unfold Cell.msr
   rw[if_pos e1]
   simp only
   rw[if_neg (by omega)]
   omega
  ·exact ih
noncomputable def setN:Nat→Heap→Heap
 |0,H=>H
 |k+1,H=>setN k H.settleH
noncomputable def goneN(H:Heap):Nat:=g1 H H.cells.length
noncomputable def dueN(H:Heap):Nat:=d2 H H.cells.length
theorem setN_sound:∀(k:Nat) {H:Heap},Sound H→Sound (setN k H)
 |0,_,h=>h
 |k+1,_,h=>setN_sound k (settle_sound h)
theorem rest_ex:∀(n:Nat) {H:Heap},msrN H.cells≤n→∃k,k≤n∧goneN (setN k H)=0∧dueN (setN k H)=0∧∀j,j<k→¬(goneN (setN j H)=0∧dueN (setN j H)=0)
 |n,H,hn=>by
  by_cases h0:goneN H=0∧dueN H=0
  ·exact⟨0,by omega,h0.1,h0.2,fun j hj=>by omega⟩
  ·have hm:msrN H.settleH.cells=msrN H.cells-goneN H-dueN H:=p2_msr H _ (Nat.le_refl _)
   have hnn:=msr_nn H.settleH.cells
   cases n with
   |zero=>omega
   |succ n=>
    obtain⟨k,hk,a,b,c⟩:=rest_ex n (H:=H.settleH) (by omega)
    refine⟨k+1,by omega,a,b,fun j hj=>?_⟩
    cases j with
    |zero=>exact h0
    |succ j=>exact c j (by omega)
theorem p1_get(H:Heap):∀i:Nat,i≤H.cells.length→∀j:Nat,j<H.cells.length→(p1 H i).getC j=if j<i∧Held H j then{H.getC j with pairs:=kept H (H.getC j) (H.getC j).pairs}else H.getC j
 |0,_,j,_=>by rw[if_neg (by omega)];rfl
 |i+1,hi,j,hj=>by
  have ih:=p1_get H i (by omega) j hj
  obtain⟨a,b,_⟩:=p1_ok H i (by omega)
  have hb:=b i (Nat.le_refl _)
  simp only[p1]
  by_cases hh:Held H i
  ·rw[if_pos hh]
   have:(H.cutC (p1 H i) i).getC j=if(j:Int).toNat=i then{(p1 H i).getC i with pairs:=kept H ((p1 H i).getC i) ((p1 H i).getC i).pairs}else(p1 H i).getC j:=by
    rw[getC_L,getC_L];exact getL_set (by rw[a.len];omega)
   rw[this]
   by_cases e:j=i
   ·subst e
    rw[if_pos (by omega),if_pos ⟨by omega,hh⟩,hb]
   ·rw[if_neg (by omega),ih]
    by_cases e2:j<i∧Held H j
    ·rw[if_pos e2,if_pos ⟨by omega,e2.2⟩]
    ·rw[if_neg e2,if_neg (fun x=>e2 ⟨by omega,x.2⟩)]
  ·rw[if_neg hh,ih]
   by_cases e2:j<i∧Held H j
   ·rw[if_pos e2,if_pos ⟨by omega,e2.2⟩]
   ·rw[if_neg e2,if_neg (fun x=>e2 ⟨by
     rcases Nat.lt_or_ge j i with y|y
     ·exact y
     ·have:j=i:=by omega
      subst this;exact absurd x.2 hh,x.2⟩)]
theorem no_due{H:Heap}:∀i:Nat,d2 H i=0→p2 H i=p1 H H.cells.length
 |0,_=>rfl
 |i+1,h=>by
  simp only[d2]at h
  simp only[p2]
  split at h
  ·omega
  ·rename_i e;rw[if_neg e];exact no_due i h
theorem held_less{H:Heap}{j:Nat}(hl:Like H (p1 H H.cells.length))(hj:Held (p1 H H.cells.length) j):Held H j:=by
 have cell:∀(i:Nat) c,(p1 H H.cells.length).cells[i]?=some c→∃c0,H.cells[i]?=some c0∧c.last=c0.last∧c.weak=c0.weak∧∀p,p∈c.pairs→p∈c0.pairs:=fun i c hc=>by
  have hi:=(List.getElem?_eq_some_iff.1 hc).1
  rw[hl.len]at hi
  have e:=p1_get H _ (Nat.le_refl _) i hi
  rw[getC_nat hc]at e
  refine⟨_,get_at hi,?_⟩
  rw[e]
  split
  ·exact⟨rfl,rfl,fun p hp=>(List.mem_filter.1 hp).1⟩
  ·exact⟨rfl,rfl,fun p hp=>hp⟩
 induction hj with
 |reg h1 h2=>exact .reg (by rw[←hl.regs];exact h1) (by rw[←hl.tgt];exact h2)
 |due h1 h2=>
  obtain⟨c0,a,b,_⟩:=cell _ _ h1
  exact .due a (by rw[←b];exact h2)
 |key _ h2 h3 h4 h5 ih=>
  obtain⟨c0,a,b,b2,b3⟩:=cell _ _ h2
  exact .key ih a (b3 _ h3) (by unfold KeyW at*;rw[←b2];exact h4) (by rw[←hl.tgt];exact h5)
 |val _ h2 h3 h4 _ h6 ih ih2=>
  obtain⟨c0,a,b,b2,b3⟩:=cell _ _ h2
  exact .val ih a (b3 _ h3) (by unfold ValW at*;rw[←b2];exact h4) (fun k hk=>ih2 k (by rw[hl.tgt];exact hk)) (by rw[←hl.tgt];exact h6)
theorem heldL_iff{H:Heap}{i:Nat}(hi:i<H.cells.length):(heldL H)[i]?=some true↔Held H i:=by
 unfold heldL
 rw[List.getElem?_map,List.getElem?_range hi]
 simp
theorem counted_less{H:Heap}(h:Sound H)(hd:dueN H=0):sumT H.settleH (heldL H.settleH) H.settleH.cells.length≤sumT H (heldL H) H.cells.length-goneN H:=by
 have e:H.settleH=p1 H H.cells.length:=no_due _ hd
 rw[e]
 obtain⟨l,_⟩:=p1_ok H _ (Nat.le_refl _)
 rw[l.len]
 have key:∀k:Nat,k≤H.cells.length→sumT (p1 H H.cells.length) (heldL (p1 H H.cells.length)) k≤sumT H (heldL H) k-g1 H k:=by
  intro k
  induction k with
  |zero=>intro _;simp[sumT,g1]
  |succ k ih=>
   intro hk
   have ih:=ih (by omega)
   have hg:=p1_get H _ (Nat.le_refl _) k (by omega)
   have h1:(heldL (p1 H H.cells.length))[k]?=some true↔Held (p1 H H.cells.length) k:=heldL_iff (by rw[l.len];omega)
   have h2:(heldL H)[k]?=some true↔Held H k:=heldL_iff (by omega)
   simp only[sumT,g1]
   by_cases hh:Held H k
   ·rw[if_pos (h2.2 hh),if_pos hh]
    have hs:((p1 H H.cells.length).getC k).units=(H.getC k).units-nGone H (H.getC k) (H.getC k).pairs:=by
     rw[hg,if_pos ⟨by omega,hh⟩]
     have hkl:=kept_len H (H.getC k) (H.getC k).pairs
     unfold Cell.units
     by_cases hu:(H.getC k).state=1
     ·rw[if_pos hu,if_pos hu];simp only;omega
     ·rw[if_neg hu,if_neg hu]
      have:=(h.r2.bare (get_at (H:=H) (i:=k) (by omega)) hu).2.2.2.2.2
      rw[this]at hkl⊢
      simp at hkl
      omega
    have hnn:=(units_le (c:=(p1 H H.cells.length).getC k) (by rw[hg];have:=getC_pl h.r2 k;have hkl:=kept_len H (H.getC k) (H.getC k).pairs;split<;>simp<;>omega)).1
    split
    ·rw[hs];push_cast;omega
    ·push_cast;omega
   ·rw[if_neg (fun x=>hh (h2.1 x)),if_neg hh,if_neg (fun x=>hh (held_less l (h1.1 x)))]
    exact ih
 exact key _ (Nat.le_refl _)
theorem Cod.le{m m':Mem}{ca:Option Addr}{cn:Nat}(h:Cod m ca cn)(l:m.le m'):Cod m' ca cn:=⟨fun i hi=>by
 obtain⟨b,o,v,e,hc,hv⟩:=h.at_ i hi
 exact⟨b,o,v,e,cell_le l hc,hv⟩,h.bd⟩
theorem given_a{ca:Option Addr}{cn cc:Nat}{m:Mem}(hc:Cod m ca cn):FnA Tryz.prog 6 [.slice ca cn cc] [ro m] (fun v As=>∃x:HX,v=x.v∧Sound x.H∧As=x.body++[ro m]):=by
 refine fnA_of (fun h=>fn6 (by simp) h) ?_
 repeat' (first
  |(refine k_L ?_;first|refine a_p rfl ?_|(refine k_ls ?_;refine g_ls rfl ?_)|(refine k_st ?_;refine g_sw rfl rfl rfl rfl (Nat.le_of_ble_eq_true rfl) ?_)|(refine k_al ?_;refine a_al ?_)|(refine a_nw rfl rfl (fun pc=>?_))|(refine g_c rfl (heap_a (pc:=pc) (cc:=cc) (t:=0) (s:=0) hc (by omega)) (fun v As' hq=>?_);obtain⟨pb,ph,s1,rfl,h1,rfl⟩:=hq))
  |refine a_n ?_
  |(refine k_V ?_;first|refine v_seq ?_|refine v_reg ?_|refine v_ret ?_)
  |refine sk_zero ?_
  |refine sk_succ ?_
  |refine wk_nil ?_
  |refine wk_cons ?_)
 exact fa_r (As':=s1.x.body++[ro m]) (fun _ _=>rfl) (Pm.ent pmt) ⟨_,rfl,h1.snd,rfl⟩
theorem reach_s{H:Heap}(h:Sound H):H.reach=reachL H:=by unfold Heap.reach;rw[if_pos ((okH_sound H).2 h)]
theorem holds_s{H:Heap}(h:Sound H):H.holds=heldL H:=by unfold Heap.holds;rw[if_pos ((okH_sound H).2 h)]
theorem counted_s{H:Heap}(h:Sound H):H.counted=sumT H (heldL H) H.cells.length:=by unfold Heap.counted;rw[if_pos ((okH_sound H).2 h)]
theorem settle_s{H:Heap}(h:Sound H):H.settleA=H.settleH∧settleG H=(goneN H:Int)∧settleD H=(dueN H:Int):=by unfold Heap.settleA settleG settleD;rw[if_pos ((okH_sound H).2 h),if_pos ((okH_sound H).2 h),if_pos ((okH_sound H).2 h)];exact⟨rfl,rfl,rfl⟩
end Go.Proofs.YtcjmodomfilagaaGreat.E
