/- A part of the proof. Conditions: none. -/
import Derived.Test.YtcjmodomfilagaaGreatKH17
set_option linter.unusedVariables false
set_option linter.unusedSimpArgs false
set_option maxHeartbeats 8000000
set_option maxRecDepth 100000
namespace Go.Proofs.YtcjmodomfilagaaGreat.E
open Go
open Classical
section
variable {a:Nat} {x:HX} {n:Int} {ka kb kc:Nat}
theorem do_2(h:Sound x.H)(hP:ActP ⟨2,ka,kb,kc,n⟩):FnA Tryz.prog 130 [ptr a,.agg #[.int .i64 2,.int .i64 ka,.int .i64 kb,.int .i64 kc,.int .i64 n]] (hp a x) (fun v As=>∃z:HX,v=an 0 0∧As=hp a z∧z.H=x.H.setR ka ⟨1,n,0⟩):=by
 have hQ:=hP
 simp[ActP,aMost,bMost,cMost]at hQ
 have hnr:x.hdr.nr=x.regs.length:=rfl
 have h16:x.regs.length=16:=h.r1.regs
 obtain⟨w,gw⟩:∃w,x.regs[ka]?=some w:=⟨_,List.getElem?_eq_getElem (by omega)⟩
 refine fnA_of (fun h=>fn130 (by simp) h) ?_
 repeat' (first
  |(refine k_L ?_;first|(refine k_l ?_;refine g_l rfl ?_)|(refine k_i ?_;refine g_i rfl rfl ?_)|(refine k_st ?_;first|refine g_st rfl rfl rfl rfl ?_|refine g_sw rfl rfl rfl rfl (Nat.le_of_ble_eq_true rfl) ?_)|(refine k_al ?_;refine a_al ?_)|(refine k_bx ?_;refine a_bx rfl rfl ?_)|(refine k_c ?_;first|refine a_cq rfl (fun m hm=>actOk_t (b:=⟨2,ka,kb,kc,n⟩) hP) ?_|refine a_cq rfl (fun m hm=>l5fine_q) ?_)|(refine b_w ⟨1,n,0⟩ rfl ?_)|(refine b_p rfl ?_))
  |refine a_n ?_
  |(refine k_V ?_;first|refine v_seq ?_|refine v_reg ?_|refine v_dreg ?_|refine v_bs ?_|refine v_ret ?_|refine v_skip ?_|refine v_ct rfl ?_|refine v_cf rfl ?_)
  |refine sk_zero ?_
  |refine sk_succ ?_
  |refine wk_nil ?_
  |refine wk_cons ?_)
 all_goals exact fa_r (fun _ _=>rfl) (Pm.ent (fin ({x with regs:=x.regs.set ka ⟨1,n,0⟩}:HX) (h1:=by simp[HX.hdr]))) ⟨_,rfl,rfl,rfl⟩
theorem do_3(h:Sound x.H)(hP:ActP ⟨3,ka,kb,kc,n⟩):FnA Tryz.prog 130 [ptr a,.agg #[.int .i64 3,.int .i64 ka,.int .i64 kb,.int .i64 kc,.int .i64 n]] (hp a x) (fun v As=>∃z:HX,v=an 0 0∧As=hp a z∧z.H=x.H.setR ka ⟨0,0,0⟩):=by
 have hQ:=hP
 simp[ActP,aMost,bMost,cMost]at hQ
 have hnr:x.hdr.nr=x.regs.length:=rfl
 have h16:x.regs.length=16:=h.r1.regs
 obtain⟨w,gw⟩:∃w,x.regs[ka]?=some w:=⟨_,List.getElem?_eq_getElem (by omega)⟩
 refine fnA_of (fun h=>fn130 (by simp) h) ?_
 repeat' (first
  |(refine k_L ?_;first|(refine k_l ?_;refine g_l rfl ?_)|(refine k_i ?_;refine g_i rfl rfl ?_)|(refine k_st ?_;first|refine g_st rfl rfl rfl rfl ?_|refine g_sw rfl rfl rfl rfl (Nat.le_of_ble_eq_true rfl) ?_)|(refine k_al ?_;refine a_al ?_)|(refine k_bx ?_;refine a_bx rfl rfl ?_)|(refine k_c ?_;first|refine a_cq rfl (fun m hm=>actOk_t (b:=⟨3,ka,kb,kc,n⟩) hP) ?_|refine a_cq rfl (fun m hm=>l5fine_q) ?_)|(refine b_w ⟨0,0,0⟩ rfl ?_)|(refine b_p rfl ?_))
  |refine a_n ?_
  |(refine k_V ?_;first|refine v_seq ?_|refine v_reg ?_|refine v_dreg ?_|refine v_bs ?_|refine v_ret ?_|refine v_skip ?_|refine v_ct rfl ?_|refine v_cf rfl ?_)
  |refine sk_zero ?_
  |refine sk_succ ?_
  |refine wk_nil ?_
  |refine wk_cons ?_)
 all_goals exact fa_r (fun _ _=>rfl) (Pm.ent (fin ({x with regs:=x.regs.set ka ⟨0,0,0⟩}:HX) (h1:=by simp[HX.hdr]))) ⟨_,rfl,rfl,rfl⟩
theorem do_4(h:Sound x.H)(hP:ActP ⟨4,ka,kb,kc,n⟩):FnA Tryz.prog 130 [ptr a,.agg #[.int .i64 4,.int .i64 ka,.int .i64 kb,.int .i64 kc,.int .i64 n]] (hp a x) (fun v As=>∃z:HX,v=an 0 0∧As=hp a z∧z.H=x.H.setR ka (x.H.getR kb)):=by
 have hQ:=hP
 simp[ActP,aMost,bMost,cMost]at hQ
 have hnr:x.hdr.nr=x.regs.length:=rfl
 have h16:x.regs.length=16:=h.r1.regs
 obtain⟨w,gw⟩:∃w,x.regs[ka]?=some w:=⟨_,List.getElem?_eq_getElem (by omega)⟩
 obtain⟨v,gv⟩:∃w,x.regs[kb]?=some w:=⟨_,List.getElem?_eq_getElem (by omega)⟩
 rw[getR_at gv]
 refine fnA_of (fun h=>fn130 (by simp) h) ?_
 repeat' (first
  |(refine k_L ?_;first|refine a_p rfl ?_|(refine k_l ?_;refine g_l rfl ?_)|(refine k_i ?_;refine g_i rfl rfl ?_)|(refine k_ls ?_;refine g_ls rfl ?_)|(refine k_st ?_;first|refine g_st rfl rfl rfl rfl ?_|refine g_sw rfl rfl rfl rfl (Nat.le_of_ble_eq_true rfl) ?_)|(refine k_al ?_;refine a_al ?_)|(refine k_bx ?_;refine a_bx rfl rfl ?_)|(refine k_c ?_;first|refine a_cq rfl (fun m hm=>actOk_t (b:=⟨4,ka,kb,kc,n⟩) hP) ?_|refine a_cq rfl (fun m hm=>l5fine_q) ?_))
  |refine a_n ?_
  |(refine k_V ?_;first|refine v_seq ?_|refine v_reg ?_|refine v_dreg ?_|refine v_bs ?_|refine v_ret ?_|refine v_skip ?_|refine v_ct rfl ?_|refine v_cf rfl ?_)
  |refine sk_zero ?_
  |refine sk_succ ?_
  |refine wk_nil ?_
  |refine wk_cons ?_)
 all_goals exact fa_r (fun _ _=>rfl) (Pm.ent (fin ({x with regs:=x.regs.set ka v}:HX) (h1:=by simp[HX.hdr]))) ⟨_,rfl,rfl,rfl⟩
theorem do_13(h:Sound x.H)(hP:ActP ⟨13,ka,kb,kc,n⟩):FnA Tryz.prog 130 [ptr a,.agg #[.int .i64 13,.int .i64 ka,.int .i64 kb,.int .i64 kc,.int .i64 n]] (hp a x) (fun v As=>v=an 0 (if x.H.getR ka=x.H.getR kb then 1 else 0)∧As=hp a x):=by
 have hQ:=hP
 simp[ActP,aMost,bMost,cMost]at hQ
 have hnr:x.hdr.nr=x.regs.length:=rfl
 have h16:x.regs.length=16:=h.r1.regs
 obtain⟨w,gw⟩:∃w,x.regs[ka]?=some w:=⟨_,List.getElem?_eq_getElem (by omega)⟩
 obtain⟨v,gv⟩:∃w,x.regs[kb]?=some w:=⟨_,List.getElem?_eq_getElem (by omega)⟩
 rw[getR_at gv,getR_at gw]
 obtain⟨wk,wn,wat⟩:=w
 obtain⟨vk,vn,vat⟩:=v
 refine fnA_of (fun h=>fn130 (by simp) h) ?_
 repeat' (first
  |(refine k_L ?_;first|refine a_p rfl ?_|(refine k_l ?_;refine g_l rfl ?_)|(refine k_i ?_;refine g_i rfl rfl ?_)|(refine k_ls ?_;refine g_ls rfl ?_)|(refine k_st ?_;refine g_sw rfl rfl rfl rfl (Nat.le_of_ble_eq_true rfl) ?_)|(refine k_al ?_;refine a_al ?_)|(refine k_bx ?_;refine a_bx rfl rfl ?_)|(refine k_c ?_;first|refine a_cq rfl (fun m hm=>actOk_t (b:=⟨13,ka,kb,kc,n⟩) hP) ?_|refine a_cq rfl (fun m hm=>l5fine_q) ?_))
  |refine a_n ?_
  |(refine k_V ?_;first|refine v_seq ?_|refine v_reg ?_|refine v_dreg ?_|refine v_bs ?_|refine v_ret ?_|refine v_skip ?_|refine v_ct rfl ?_|refine v_cf rfl ?_|(refine v_cond _ rfl (fun hb=>?_) (fun hb=>?_)))
  |refine s_r ?_
  |refine b_r ?_
  |refine sk_zero ?_
  |refine sk_succ ?_
  |refine wk_nil ?_
  |refine wk_cons ?_)
 ·have e:wk=vk∧wn=vn∧wat=vat:=by simpa using hb
  refine fa_r (fun _ _=>rfl) (Pm.ent pmt) ⟨?_,rfl⟩
  rw[if_pos (by rw[e.1,e.2.1,e.2.2])];rfl
 ·have e:¬(wk=vk∧wn=vn∧wat=vat):=fun e=>by
   obtain⟨rfl,rfl,rfl⟩:=e
   simp at hb
  refine fa_r (fun _ _=>rfl) (Pm.ent pmt) ⟨?_,rfl⟩
  rw[if_neg (fun h=>e (by rw[Word.mk.injEq]at h;exact h))];rfl
theorem do_14(h:Sound x.H)(hP:ActP ⟨14,ka,kb,kc,n⟩):FnA Tryz.prog 130 [ptr a,.agg #[.int .i64 14,.int .i64 ka,.int .i64 kb,.int .i64 kc,.int .i64 n]] (hp a x) (fun v As=>v=an 0 (x.H.getR ka).kind∧As=hp a x):=by
 have hQ:=hP
 simp[ActP,aMost,bMost,cMost]at hQ
 have hnr:x.hdr.nr=x.regs.length:=rfl
 have h16:x.regs.length=16:=h.r1.regs
 obtain⟨w,gw⟩:∃w,x.regs[ka]?=some w:=⟨_,List.getElem?_eq_getElem (by omega)⟩
 rw[getR_at gw]
 refine fnA_of (fun h=>fn130 (by simp) h) ?_
 repeat' (first
  |(refine k_L ?_;first|refine a_p rfl ?_|(refine k_l ?_;first|refine a_l rfl (by exact rd_t (rd_h (rd_sl (fun _=>rfl) gw rfl))) ?_|refine g_l rfl ?_)|(refine k_i ?_;refine g_i rfl rfl ?_)|(refine k_st ?_;refine g_sw rfl rfl rfl rfl (Nat.le_of_ble_eq_true rfl) ?_)|(refine k_al ?_;refine a_al ?_)|(refine k_bx ?_;refine a_bx rfl rfl ?_)|(refine k_q ?_;refine a_q rfl (fun m hm=>l5fine_q) ?_)|(refine k_c ?_;refine a_cq rfl (fun m hm=>actOk_t (b:=⟨14,ka,kb,kc,n⟩) hP) ?_))
  |refine a_n ?_
  |(refine k_V ?_;first|refine v_seq ?_|refine v_reg ?_|refine v_dreg ?_|refine v_bs ?_|refine v_ret ?_|refine v_skip ?_|refine v_ct rfl ?_|refine v_cf rfl ?_)
  |refine s_r ?_
  |refine b_r ?_
  |refine sk_zero ?_
  |refine sk_succ ?_
  |refine wk_nil ?_
  |refine wk_cons ?_)
 all_goals exact fa_r (fun _ _=>rfl) (Pm.ent pmt) ⟨rfl,rfl⟩
theorem do_15(h:Sound x.H)(hP:ActP ⟨15,ka,kb,kc,n⟩):FnA Tryz.prog 130 [ptr a,.agg #[.int .i64 15,.int .i64 ka,.int .i64 kb,.int .i64 kc,.int .i64 n]] (hp a x) (fun v As=>v=(if(x.H.getR ka).kind=1 then an 0 (x.H.getR ka).num else an 2 0)∧As=hp a x):=by
 have hQ:=hP
 simp[ActP,aMost,bMost,cMost]at hQ
 have hnr:x.hdr.nr=x.regs.length:=rfl
 have h16:x.regs.length=16:=h.r1.regs
 obtain⟨w,gw⟩:∃w,x.regs[ka]?=some w:=⟨_,List.getElem?_eq_getElem (by omega)⟩
 rw[getR_at gw]
 refine fnA_of (fun h=>fn130 (by simp) h) ?_
 by_cases hk:w.kind=1
 ·rw[if_pos hk]
  repeat' (first
   |(refine k_L ?_;first|refine a_p rfl ?_|(refine k_l ?_;first|refine a_l rfl (by exact rd_t (rd_h (rd_sl (fun _=>rfl) gw rfl))) ?_|refine g_l rfl ?_)|(refine k_i ?_;refine g_i rfl rfl ?_)|(refine k_st ?_;refine g_sw rfl rfl rfl rfl (Nat.le_of_ble_eq_true rfl) ?_)|(refine k_al ?_;refine a_al ?_)|(refine k_bx ?_;refine a_bx rfl rfl ?_)|(refine k_c ?_;refine a_cq rfl (fun m hm=>actOk_t (b:=⟨15,ka,kb,kc,n⟩) hP) ?_))
   |refine a_n ?_
   |(refine k_V ?_;first|refine v_seq ?_|refine v_reg ?_|refine v_dreg ?_|refine v_bs ?_|refine v_ret ?_|refine v_skip ?_|refine v_ct rfl ?_|refine v_cf rfl ?_|(refine v_cn rfl (fun hb=>?_) (fun hb=>?_)<;>try(exfalso;omega)))
   |refine s_r ?_
   |refine b_r ?_
   |refine sk_zero ?_
   |refine sk_succ ?_
   |refine wk_nil ?_
   |refine wk_cons ?_)
  all_goals exact fa_r (fun _ _=>rfl) (Pm.ent pmt) ⟨rfl,rfl⟩
 ·rw[if_neg hk]
  repeat' (first
   |(refine k_L ?_;first|refine a_p rfl ?_|(refine k_l ?_;first|refine a_l rfl (by exact rd_t (rd_h (rd_sl (fun _=>rfl) gw rfl))) ?_|refine g_l rfl ?_)|(refine k_i ?_;refine g_i rfl rfl ?_)|(refine k_st ?_;refine g_sw rfl rfl rfl rfl (Nat.le_of_ble_eq_true rfl) ?_)|(refine k_al ?_;refine a_al ?_)|(refine k_bx ?_;refine a_bx rfl rfl ?_)|(refine k_c ?_;first|refine a_cq rfl (fun m hm=>actOk_t (b:=⟨15,ka,kb,kc,n⟩) hP) ?_|refine a_cq rfl (fun m hm=>l5bad_q) ?_))
   |refine a_n ?_
   |(refine k_V ?_;first|refine v_seq ?_|refine v_reg ?_|refine v_dreg ?_|refine v_bs ?_|refine v_ret ?_|refine v_skip ?_|refine v_ct rfl ?_|refine v_cf rfl ?_|(refine v_cn rfl (fun hb=>?_) (fun hb=>?_)<;>try(exfalso;omega)))
   |refine s_r ?_
   |refine b_r ?_
   |refine sk_zero ?_
   |refine sk_succ ?_
   |refine wk_nil ?_
   |refine wk_cons ?_)
  all_goals exact fa_r (fun _ _=>rfl) (Pm.ent pmt) ⟨rfl,rfl⟩
end
theorem wand1(x:BitVec IntKind.i64.bits):0≤IntKind.i64.wrap ((x&&&BitVec.ofInt IntKind.i64.bits 1).toNat:Int):=by
 have h:(x&&&BitVec.ofInt IntKind.i64.bits 1).toNat≤1:=by
  rw[BitVec.toNat_and];exact Nat.and_le_right
 generalize(x&&&BitVec.ofInt IntKind.i64.bits 1).toNat=n at*
 rcases(by omega:n=0∨n=1)with rfl|rfl<;>decide
theorem wand2(x:BitVec IntKind.i64.bits):0≤IntKind.i64.wrap ((x&&&BitVec.ofInt IntKind.i64.bits 2).toNat:Int):=by
 have h:(x&&&BitVec.ofInt IntKind.i64.bits 2).toNat≤2:=by
  rw[BitVec.toNat_and];exact Nat.and_le_right
 generalize(x&&&BitVec.ofInt IntKind.i64.bits 2).toNat=n at*
 rcases(by omega:n=0∨n=1∨n=2)with rfl|rfl|rfl<;>decide
theorem keyw_pos{c:Cell}:IntKind.i64.wrap (BitVec.ofInt IntKind.i64.bits c.weak&&&BitVec.ofInt IntKind.i64.bits 1).toNat>0↔¬KeyW c:=by
 have:=wand1 (BitVec.ofInt IntKind.i64.bits c.weak)
 unfold KeyW
 omega
theorem valw_pos{c:Cell}:IntKind.i64.wrap (BitVec.ofInt IntKind.i64.bits c.weak&&&BitVec.ofInt IntKind.i64.bits 2).toNat>0↔¬ValW c:=by
 have:=wand2 (BitVec.ofInt IntKind.i64.bits c.weak)
 unfold ValW
 omega
noncomputable def Heap.dk(K H:Heap)(c:Cell)(i k:Nat):Heap:={K with cells:=K.cells.set i {c with pairs:=c.pairs.take k++kept H c (c.pairs.drop k)},used:=K.used-nGone H c (c.pairs.drop k),sub:=if H.walkedI=i then K.sub-nGone H c ((c.pairs.take K.sub.toNat).drop k)else K.sub}
theorem set_same{l:List Cell}{i:Nat}{c:Cell}(h:l[i]?=some c):l.set i c=l:=by
 apply List.ext_getElem?
 intro j
 rw[List.getElem?_set]
 split
 ·rename_i e;subst e
  rw[if_pos (List.getElem?_eq_some_iff.1 h).1,h]
 ·rfl
theorem dk_top{K H:Heap}{c:Cell}{i:Nat}(h:K.cells[i]?=some c):K.dk H c i c.pairs.length=K:=by
 unfold Heap.dk
 have e0:nGone H c []=0:=rfl
 have e1:(c.pairs.take K.sub.toNat).drop c.pairs.length=[]:=List.drop_eq_nil_of_le (by rw[List.length_take];omega)
 rw[List.take_length,List.drop_length,kept_nil,List.append_nil,e1,e0]
 have e2:({c with pairs:=c.pairs}:Cell)=c:=rfl
 rw[e2,set_same h]
 simp
theorem dk_bot{K H:Heap}{c:Cell}{i:Nat}(h:K.getC i=c):K.dk H c i 0=H.cutC K i:=by
 unfold Heap.dk Heap.cutC
 rw[h,List.take_zero,List.drop_zero,List.nil_append,List.drop_zero]
theorem drop_s{c:Cell}{k:Nat}{p:Pair}(hp:c.pairs[k]?=some p):c.pairs.drop k=[p]++c.pairs.drop (k+1):=by
 have h:=List.getElem?_eq_some_iff.1 hp
 rw[List.drop_eq_getElem_cons h.1,h.2];rfl
theorem dk_keep{K H:Heap}{c:Cell}{i k:Nat}{p:Pair}(hp:c.pairs[k]?=some p)(hg:¬GoneP H c p):K.dk H c i k=K.dk H c i (k+1):=by
 unfold Heap.dk
 have e1:c.pairs.take k++kept H c (c.pairs.drop k)=c.pairs.take (k+1)++kept H c (c.pairs.drop (k+1)):=by
  rw[drop_s hp,kept_app,kept_one,if_neg hg,take_s hp,List.append_assoc]
 have e2:nGone H c (c.pairs.drop k)=nGone H c (c.pairs.drop (k+1)):=by rw[drop_s hp,nGone_app,nGone_one,if_neg hg];omega
 have e3:nGone H c ((c.pairs.take K.sub.toNat).drop k)=nGone H c ((c.pairs.take K.sub.toNat).drop (k+1)):=by
  by_cases h:k<K.sub.toNat
  ·have hp':(c.pairs.take K.sub.toNat)[k]?=some p:=by rw[List.getElem?_take,if_pos h];exact hp
   have h':=List.getElem?_eq_some_iff.1 hp'
   rw[List.drop_eq_getElem_cons h'.1,h'.2]
   have:p::(c.pairs.take K.sub.toNat).drop (k+1)=[p]++(c.pairs.take K.sub.toNat).drop (k+1):=rfl
   rw[this,nGone_app,nGone_one,if_neg hg];omega
  ·rw[List.drop_eq_nil_of_le (by rw[List.length_take];omega),List.drop_eq_nil_of_le (by rw[List.length_take];omega)]
 rw[e1,e2,e3]
theorem dk_gone{K H:Heap}{c:Cell}{i k:Nat}{p:Pair}(hi:i<K.cells.length)(hp:c.pairs[k]?=some p)(hg:GoneP H c p):
 K.dk H c i k={K.dk H c i (k+1)with cells:=(K.dk H c i (k+1)).cells.set i {c with pairs:=(c.pairs.take (k+1)++kept H c (c.pairs.drop (k+1))).eraseIdx k},used:=(K.dk H c i (k+1)).used-1,sub:=if(k:Int)<(K.dk H c i (k+1)).sub∧H.walkedI=i then(K.dk H c i (k+1)).sub-1 else(K.dk H c i (k+1)).sub}:=by
 have hkl:=(List.getElem?_eq_some_iff.1 hp).1
 have e1:c.pairs.take k++kept H c (c.pairs.drop k)=(c.pairs.take (k+1)++kept H c (c.pairs.drop (k+1))).eraseIdx k:=by
  rw[drop_s hp,kept_app,kept_one,if_pos hg,take_s hp,List.append_assoc,List.eraseIdx_append_of_length_le (by rw[List.length_take];omega)]
  have:k-(c.pairs.take k).length=0:=by rw[List.length_take];omega
  rw[this];rfl
 have e2:nGone H c (c.pairs.drop k)=nGone H c (c.pairs.drop (k+1))+1:=by rw[drop_s hp,nGone_app,nGone_one,if_pos hg];omega
 have e3:(if H.walkedI=i then K.sub-(nGone H c ((c.pairs.take K.sub.toNat).drop k):Nat)else K.sub)=if(k:Int)<(if H.walkedI=i then K.sub-(nGone H c ((c.pairs.take K.sub.toNat).drop (k+1)):Nat)else K.sub)∧H.walkedI=i then(if H.walkedI=i then K.sub-(nGone H c ((c.pairs.take K.sub.toNat).drop (k+1)):Nat)else K.sub)-1 else(if H.walkedI=i then K.sub-(nGone H c ((c.pairs.take K.sub.toNat).drop (k+1)):Nat)else K.sub):=by
  by_cases hw:H.walkedI=i
  ·simp only[hw,if_true,and_true]
   have hn:=nGone_le H c ((c.pairs.take K.sub.toNat).drop (k+1))
   rw[List.length_drop,List.length_take]at hn
   by_cases h:(k:Int)<K.sub
   ·have hp':(c.pairs.take K.sub.toNat)[k]?=some p:=by rw[List.getElem?_take,if_pos (by omega)];exact hp
    have h':=List.getElem?_eq_some_iff.1 hp'
    have e4:nGone H c ((c.pairs.take K.sub.toNat).drop k)=nGone H c ((c.pairs.take K.sub.toNat).drop (k+1))+1:=by
     rw[List.drop_eq_getElem_cons h'.1,h'.2]
     have:p::(c.pairs.take K.sub.toNat).drop (k+1)=[p]++(c.pairs.take K.sub.toNat).drop (k+1):=rfl
     rw[this,nGone_app,nGone_one,if_pos hg];omega
    rw[if_pos (by omega),e4];omega
   ·have e5:∀j,k≤j→(c.pairs.take K.sub.toNat).drop j=[]:=fun j hj=>List.drop_eq_nil_of_le (by rw[List.length_take];omega)
    rw[e5 k (Nat.le_refl _),e5 (k+1) (by omega)]
    have e0:nGone H c []=0:=rfl
    rw[e0,if_neg (by omega)]
  ·simp only[hw,if_false,and_false]
 unfold Heap.dk
 simp only[List.set_set]
 rw[e1,e3]
 have e6:K.used-((nGone H c (c.pairs.drop k):Nat):Int)=K.used-(nGone H c (c.pairs.drop (k+1)):Nat)-1:=by rw[e2];omega
 rw[e6]
theorem dk_like{K H:Heap}{c:Cell}{i k:Nat}(h:Like H K)(hi:K.cells[i]?=some c):Like H (K.dk H c i k):=by
 have hlt:=(List.getElem?_eq_some_iff.1 hi).1
 have hg:=getC_nat hi
 exact h.trans (like_set (c:={c with pairs:=c.pairs.take k++kept H c (c.pairs.drop k)}) hlt (by rw[hg];exact⟨rfl,rfl,rfl,rfl,rfl,rfl⟩) rfl rfl rfl rfl rfl rfl rfl rfl rfl rfl rfl)
theorem l4settle_a{a:Nat}{x:HX}(h:Sound x.H):FnA Tryz.prog 32 [ptr a] (hp a x) (fun v As=>∃z:HX,v=.tuple #[.int .i64 (g1 x.H x.H.cells.length:Nat),.int .i64 (d2 x.H x.H.cells.length:Nat)]∧As=hp a z∧z.H=x.H.settleH):=by
 obtain⟨q1,q2,q3⟩:=sound_gray h
 have hl:=x.len
 have hnc:x.hdr.nc=x.xs.length:=rfl
 have h2:=h.r2
 have hrm:=h.r1.room
 have hsb:=h.r1.sub
 have hus:=h.r3
 have hun:=pairsN_units h2
 have hpn:=pairsN_nonneg x.H.cells
 unfold R3 at hus
 have hln:=heldL_len x.H
 refine fnA_of (fun h=>fn32 (by simp) h) ?_
 repeat' (first
  |(refine k_L ?_;first|refine a_p rfl ?_|(refine k_l ?_;refine g_l rfl ?_)|(refine g_c rfl (fna_ro (q:=fun v E=>∃sd:D,v=.slice sd.a (heldL x.H).length sd.cap∧E=[slA 1 bv sd (heldL x.H)]) (Bs:=hp a x) (fun m hm=>(l2holds_a (has_star hm) h.r1 h.r2 h.r4).mono (fun v As ⟨sd,e1,e2⟩=>⟨_,⟨sd,e1,rfl⟩,e2⟩))) (fun v As' hq=>?_);obtain⟨_,⟨sd,rfl,rfl⟩,rfl⟩:=hq))
  |refine a_n ?_
  |(refine k_V ?_;first|refine v_seq ?_|refine v_reg ?_)
  |refine s_n ?_)
 refine g_range x.xs.length (fun q:HX×Nat=>[(0,.v (ptr a)),(4,.v (.slice sd.a (heldL x.H).length sd.cap)),(5,.v (.int .i64 q.2))]) (fun q=>hp a q.1++[slA 1 bv sd (heldL x.H)]) (fun i q=>q.1.H=p1 x.H i∧q.2=g1 x.H i) ((x,0):HX×Nat) ⟨rfl,rfl⟩ (fun i q hi hv=>?_) (fun q hv=>?_)
 ·obtain⟨z,g⟩:=q
  obtain⟨hz,hg⟩:=hv
  simp only at hz hg
  subst hg
  dsimp only
  obtain⟨lk,lc,lla,lu,ls1,ls2⟩:=p1_ok x.H i (by omega)
  rw[←hz]at lk lc lla lu ls1 ls2
  have hzl:=z.len
  have hzn:z.hdr.nc=z.xs.length:=rfl
  have hzx:z.xs.length=x.xs.length:=by rw[←hzl,lk.len,hl]
  obtain⟨y,gy,gyc⟩:=HX.at (x:=z) (i:=i) (by omega)
  have gk:=HX.gc gy
  have gx:x.H.getC i=y.c:=by rw[←lc i (Nat.le_refl _)];exact gk
  have gxs:=getL_some (cs:=x.H.cells) (j:=i) (by omega) (by omega)
  rw[Int.toNat_natCast,←getC_L,gx]at gxs
  have hpl:=h2.pl (List.mem_of_getElem? gxs)
  have hg1:=g1_le h2 i
  have hzu:z.used=x.H.used-g1 x.H i:=lu
  have hzs1:x.H.sub-g1 x.H i≤z.sub:=ls1
  have hzs2:z.sub≤x.H.sub:=ls2
  have hgi:=heldL_get (H:=x.H) (j:=i) (by omega)
  have eg:g1 x.H (i+1)=if Held x.H i then g1 x.H i+nGone x.H y.c y.c.pairs else g1 x.H i:=by show(if _ then _ else _)=_;rw[gx]
  have ep:p1 x.H (i+1)=if Held x.H i then x.H.cutC z.H i else z.H:=by show(if _ then _ else _)=_;rw[hz]
  have gy':z.xs[(i:Int).toNat]?=some y:=gy
  by_cases hh:Held x.H i
  ·rw[decide_eq_true hh]at hgi
   rw[if_pos hh]at eg ep
   have hgi':(heldL x.H)[(i:Int).toNat]?=some true:=hgi
   repeat' (first
    |(refine k_L ?_;first|(refine k_su ?_;refine g_su rfl rfl ?_)|refine a_p rfl ?_|(refine k_l ?_;refine g_l rfl ?_)|(refine k_i ?_;refine g_i rfl rfl ?_))
    |refine a_n ?_
    |(refine k_V ?_;first|refine v_seq ?_|refine v_reg ?_|refine v_skip ?_|refine v_cf rfl ?_)
    |refine s_n ?_)
   refine v_mono (Q:=seqA (Jx (fun u:HX=>[(5,.v (.int .i64 (g1 x.H i+nGone x.H y.c y.c.pairs:Nat))),(0,.v (ptr a)),(4,.v (.slice sd.a (heldL x.H).length sd.cap)),(6,.v (.int .i64 i)),(19,.v (.int .i64 i)),(18,.v (.int .i64 x.xs.length))]) (fun u=>hp a u++[slA 1 bv sd (heldL x.H)]) (fun u=>u.H=x.H.cutC z.H i)) (fun _ _ _=>False)) ?_ ?_
   ·refine v_blk ?_
    refine v_loop (fun q:Nat×HX=>[(7,.v (.int .i64 ((q.1:Int)-1))),(5,.v (.int .i64 (g1 x.H i+nGone x.H y.c (y.c.pairs.drop q.1):Nat))),(0,.v (ptr a)),(4,.v (.slice sd.a (heldL x.H).length sd.cap)),(6,.v (.int .i64 i)),(19,.v (.int .i64 i)),(18,.v (.int .i64 x.xs.length))]) (fun q=>hp a q.2++[slA 1 bv sd (heldL x.H)]) (fun n q=>n=q.1∧q.1≤y.c.pairs.length∧q.2.H=z.H.dk x.H y.c i q.1) ⟨_,(y.c.pairs.length,z),?_,Pm.ent pmt,rfl,Nat.le_refl _,?_⟩ ?_
    ·simp only[List.drop_length]
     repeat(first|exact trivial|refine⟨rfl,?_⟩)
    ·exact(dk_top gyc).symm
    rintro n ⟨k,u⟩ ⟨hnk,hk,hu⟩
    simp only at hnk hk hu
    dsimp only
    have lu':=dk_like (H:=x.H) (i:=i) (k:=k) lk gyc
    rw[←hu]at lu'
    have hul:=u.len
    have hun:u.hdr.nc=u.xs.length:=rfl
    have hux:u.xs.length=x.xs.length:=by rw[←hul,lu'.len,hl]
    have hlt:i<z.H.cells.length:=by omega
    obtain⟨w,gw,gwc⟩:=HX.at (x:=u) (i:=i) (by omega)
    have ewc:w.c={y.c with pairs:=y.c.pairs.take k++kept x.H y.c (y.c.pairs.drop k)}:=by
     have h1:u.H.cells[i]?=some w.c:=gwc
     rw[hu]at h1
     have h3:(z.H.dk x.H y.c i k).cells[i]?=some {y.c with pairs:=y.c.pairs.take k++kept x.H y.c (y.c.pairs.drop k)}:=by
      show(z.H.cells.set i _)[i]?=_
      rw[List.getElem?_set,if_pos rfl,if_pos hlt]
     rw[h3]at h1
     exact(Option.some.inj h1).symm
    have gw':u.xs[(i:Int).toNat]?=some w:=gw
    have huu:u.used=z.used-nGone x.H y.c (y.c.pairs.drop k):=by
     have:u.H.used=z.H.used-nGone x.H y.c (y.c.pairs.drop k):=by rw[hu];rfl
     exact this
    have hus2:u.sub=if x.H.walkedI=i then z.sub-nGone x.H y.c ((y.c.pairs.take z.sub.toNat).drop k)else z.sub:=by
     have:u.H.sub=if x.H.walkedI=i then z.H.sub-nGone x.H y.c ((y.c.pairs.take z.H.sub.toNat).drop k)else z.H.sub:=by rw[hu];rfl
     exact this
    have hn1:nGone x.H y.c (y.c.pairs.drop k)≤200:=by
     have:=nGone_le x.H y.c (y.c.pairs.drop k)
     rw[List.length_drop]at this;omega
    have hn2:nGone x.H y.c ((y.c.pairs.take z.sub.toNat).drop k)≤200:=by
     have:=nGone_le x.H y.c ((y.c.pairs.take z.sub.toNat).drop k)
     rw[List.length_drop,List.length_take]at this;omega
    have hus3:z.sub-200≤u.sub∧u.sub≤z.sub:=by rw[hus2];split<;>omega
    cases k with
    |zero=>
     repeat' (first
      |(refine k_L ?_;refine a_p rfl ?_)
      |refine a_n ?_
      |(refine k_V ?_;first|refine v_seq ?_|refine v_reg ?_|refine v_exit ?_|refine v_cf rfl ?_)
      |refine s_n ?_
      |refine s_e ?_
      |refine b_e ?_)
     refine j_i u (by rw[hu,dk_bot gk]) (hl:=?_)
     simp only[List.drop_zero]
     repeat(first|exact trivial|refine⟨rfl,?_⟩)
    |succ k=>
     obtain⟨p,gp⟩:∃p,y.c.pairs[k]?=some p:=⟨_,List.getElem?_eq_getElem (by omega)⟩
     have gpw:w.c.pairs[k]?=some p:=by
      rw[ewc]
      show(y.c.pairs.take (k+1)++_)[k]?=_
      rw[List.getElem?_append_left (by rw[List.length_take];omega),List.getElem?_take,if_pos (by omega)];exact gp
     have hwl:=(List.getElem?_eq_some_iff.1 gpw).1
     have ekk:((k+1:Nat):Int)-1=k:=by omega
     have gpw':w.c.pairs[(k:Int).toNat]?=some p:=gpw
     have ewk:w.c.weak=y.c.weak:=by rw[ewc]
     have hwl2:w.c.pairs.length≤200:=by
      rw[ewc]
      show(y.c.pairs.take (k+1)++kept x.H y.c (y.c.pairs.drop (k+1))).length≤200
      have:=kept_len x.H y.c (y.c.pairs.drop (k+1))
      rw[List.length_append,List.length_take]
      rw[List.length_drop]at this
      omega
     obtain⟨pf1,pf2,_⟩:=h.r4.pairs i y.c gxs k p gp
     rw[ekk]
     refine v_seq ?_
     refine v_seq ?_
     repeat' (first
      |(refine k_L ?_;refine a_p rfl ?_)
      |refine a_n ?_
      |(refine k_V ?_;first|refine v_reg ?_|refine v_skip ?_|refine v_ct rfl ?_)
      |refine s_n ?_)
     refine v_seq ?_
     repeat' (first
      |refine a_n ?_
      |(refine k_V ?_;refine v_bs ?_))
     refine v_seq ?_
     repeat' (first
      |(refine k_L ?_;first|refine a_p rfl ?_|(refine k_l ?_;refine g_l rfl ?_)|(refine k_i ?_;refine g_i rfl rfl ?_)|(refine k_ls ?_;refine g_ls rfl ?_)|(refine k_st ?_;refine g_sw rfl rfl rfl rfl (Nat.le_of_ble_eq_true rfl) ?_)|(refine k_al ?_;refine a_al ?_))
      |refine a_n ?_
      |(refine k_V ?_;refine v_reg ?_)
      |refine s_n ?_
      |refine sk_zero ?_
      |refine sk_succ ?_
      |refine wk_nil ?_
      |refine wk_cons ?_)
     refine v_seq ?_
     repeat' (first
      |(refine k_L ?_;first|refine a_p rfl ?_|(refine k_l ?_;refine g_l rfl ?_)|(refine k_i ?_;refine g_i rfl rfl ?_))
      |refine a_n ?_
      |(refine k_V ?_;refine v_reg ?_)
      |refine s_n ?_)
     refine g_cut (fun _:Unit=>[(81,.v (.bool (decide (GoneP x.H y.c p)))),(7,.v (.int .i64 k)),(5,.v (.int .i64 (g1 x.H i+nGone x.H y.c (y.c.pairs.drop (k+1)):Nat))),(0,.v (ptr a)),(4,.v (.slice sd.a (heldL x.H).length sd.cap)),(6,.v (.int .i64 i)),(19,.v (.int .i64 i)),(18,.v (.int .i64 x.xs.length))]) (fun _=>hp a u++[slA 1 bv sd (heldL x.H)]) (fun _=>True) ?_ (fun _ _=>?_)
     ·have gwk:IntKind.i64.wrap (BitVec.ofInt IntKind.i64.bits w.c.weak&&&BitVec.ofInt IntKind.i64.bits 1).toNat>0↔¬KeyW y.c:=by rw[ewk];exact keyw_pos
      have gwv:IntKind.i64.wrap (BitVec.ofInt IntKind.i64.bits w.c.weak&&&BitVec.ofInt IntKind.i64.bits 2).toNat>0↔¬ValW y.c:=by rw[ewk];exact valw_pos
      repeat' (first
       |(refine k_L ?_;first|refine a_p rfl ?_|(refine k_g ?_;first|refine a_gy rfl rfl ?_|refine a_gn rfl rfl ?_|refine a_gu rfl ?_|(refine a_gd rfl (fun hb=>?_) (fun hb=>?_)<;>try(exfalso;omega)))|(refine a_cq rfl (fun m hm=>l4lost_q (z:=u) (H:=x.H) (sd:=sd) (w:=p.key) (sep_has hm pmt) (sep_has hm pmt) h2 lu' pf1) ?_)|(refine a_cq rfl (fun m hm=>l4lost_q (z:=u) (H:=x.H) (sd:=sd) (w:=p.val) (sep_has hm pmt) (sep_has hm pmt) h2 lu' pf2) ?_))
       |refine a_n ?_
       |(refine k_V ?_;refine v_reg ?_)
       |refine s_n ?_)
      ·refine j_i () trivial (hl:=⟨?_,by(repeat(first|exact trivial|refine⟨rfl,?_⟩))⟩)
       exact congrArg SV.v (ret_t (.inl ⟨gwk.1 (by assumption),by assumption⟩))
      ·refine j_i () trivial (hl:=⟨?_,by(repeat(first|exact trivial|refine⟨rfl,?_⟩))⟩)
       refine congrArg SV.v (congrArg Value.bool ?_)
       refine decide_eq_decide.2 ⟨fun h=>.inr ⟨gwv.1 (by assumption),h⟩,fun h=>?_⟩
       rcases h with h|h
       ·exact absurd h.2 (by assumption)
       ·exact h.2
      ·refine j_i () trivial (hl:=⟨?_,by(repeat(first|exact trivial|refine⟨rfl,?_⟩))⟩)
       refine congrArg SV.v (ret_f fun h=>?_)
       rcases h with h|h
       ·exact absurd h.2 (by assumption)
       ·exact absurd (gwv.2 h.1) (by assumption)
      ·refine j_i () trivial (hl:=⟨?_,by(repeat(first|exact trivial|refine⟨rfl,?_⟩))⟩)
       refine congrArg SV.v (congrArg Value.bool ?_)
       refine decide_eq_decide.2 ⟨fun h=>.inr ⟨gwv.1 (by assumption),h⟩,fun h=>?_⟩
       rcases h with h|h
       ·exact absurd (gwk.2 h.1) (by assumption)
       ·exact h.2
      ·refine j_i () trivial (hl:=⟨?_,by(repeat(first|exact trivial|refine⟨rfl,?_⟩))⟩)
       refine congrArg SV.v (ret_f fun h=>?_)
       rcases h with h|h
       ·exact absurd (gwk.2 h.1) (by assumption)
       ·exact absurd (gwv.2 h.1) (by assumption)
     by_cases hG:GoneP x.H y.c p
     ·have e2:nGone x.H y.c (y.c.pairs.drop k)=nGone x.H y.c (y.c.pairs.drop (k+1))+1:=by rw[drop_s gp,nGone_app,nGone_one,if_pos hG];omega
      have e3:((g1 x.H i+nGone x.H y.c (y.c.pairs.drop k):Nat):Int)=((g1 x.H i+nGone x.H y.c (y.c.pairs.drop (k+1)):Nat):Int)+1:=by rw[e2];omega
      have edk:=dk_gone (K:=z.H) (H:=x.H) (c:=y.c) (i:=i) hlt gp hG
      rw[decide_eq_true hG]
      repeat' (first
       |(refine k_L ?_;first|(refine k_ad ?_;refine g_ad rfl rfl ?_)|(refine k_su ?_;refine g_su rfl rfl ?_)|refine a_p rfl ?_|(refine g_c rfl (l4cut_a (z:=u) (i:=i) (k:=k) gw hwl hwl2 (by omega) (by omega) (by omega)) (fun v As' hq=>?_);obtain⟨u2,rfl,_,hu2⟩:=hq))
       |refine a_n ?_
       |(refine k_V ?_;first|refine v_seq ?_|refine v_reg ?_|refine v_ct rfl ?_)
       |refine s_n ?_)
      refine⟨k,(k,u2),by omega,?_,Pm.ent pmt,rfl,by show k≤y.c.pairs.length;omega,?_⟩
      ·rw[e3]
       (repeat(first|exact trivial|refine⟨rfl,?_⟩))
      ·show u2.H=z.H.dk x.H y.c i k
       rw[hu2,edk,←hu,lu'.walked,ewc]
       rfl
     ·have e2:nGone x.H y.c (y.c.pairs.drop k)=nGone x.H y.c (y.c.pairs.drop (k+1)):=by rw[drop_s gp,nGone_app,nGone_one,if_neg hG];omega
      have edk:=dk_keep (K:=z.H) (H:=x.H) (c:=y.c) (i:=i) gp hG
      rw[decide_eq_false hG]
      repeat' (first
       |(refine k_L ?_;first|(refine k_su ?_;refine g_su rfl rfl ?_)|refine a_p rfl ?_)
       |refine a_n ?_
       |(refine k_V ?_;first|refine v_reg ?_|refine v_skip ?_|refine v_cf rfl ?_)
       |refine s_n ?_)
      refine⟨k,(k,u),by omega,?_,Pm.ent pmt,rfl,by show k≤y.c.pairs.length;omega,?_⟩
      ·rw[e2]
       (repeat(first|exact trivial|refine⟨rfl,?_⟩))
      ·show u.H=z.H.dk x.H y.c i k
       rw[hu,edk]
   rintro t S' As' hq
   cases t with
   |ret=>exact hq.elim
   |ext i=>exact hq.elim
   |nrm=>
   obtain⟨u,hl',he',hu⟩:=hq
   refine r_nx ((u,g1 x.H (i+1)):HX×Nat) ⟨by rw[ep];exact hu,rfl⟩ (hl:=?_) (he:=he')
   rw[eg]
   obtain⟨k1,k2,k3,k4,k5,k6,_⟩:=hl'
   exact⟨k5,k6,k2,k3,k1,trivial⟩
  ·rw[decide_eq_false hh]at hgi
   rw[if_neg hh]at eg ep
   have hgi':(heldL x.H)[(i:Int).toNat]?=some false:=hgi
   repeat' (first
    |(refine k_L ?_;first|refine a_p rfl ?_|(refine k_l ?_;refine g_l rfl ?_)|(refine k_i ?_;refine g_i rfl rfl ?_))
    |refine a_n ?_
    |(refine k_V ?_;first|refine v_seq ?_|refine v_reg ?_|refine v_exit ?_|refine v_ct rfl ?_)
    |refine s_e ?_)
   exact r_ct ((z,g1 x.H i):HX×Nat) ⟨ep.symm,eg.symm⟩
 obtain⟨z0,g0⟩:=q
 obtain⟨hz0,hg0⟩:=hv
 simp only at hz0 hg0
 subst hg0
 dsimp only
 obtain⟨lk0,_,lla0,lu0,_⟩:=p1_ok x.H x.H.cells.length (Nat.le_refl _)
 rw[hl]at lk0 lla0 lu0
 rw[←hz0]at lk0
 have hz0n:z0.hdr.nc=z0.xs.length:=rfl
 have hz0l:=z0.len
 have hz0x:z0.xs.length=x.xs.length:=by rw[←hz0l,lk0.len,hl]
 repeat' (first
  |(refine k_L ?_;first|refine a_p rfl ?_|(refine k_l ?_;refine g_l rfl ?_))
  |refine a_n ?_
  |(refine k_V ?_;first|refine v_seq ?_|refine v_reg ?_)
  |refine s_n ?_)
 refine g_range x.xs.length (fun q:HX×Nat=>[(0,.v (ptr a)),(4,.v (.slice sd.a (heldL x.H).length sd.cap)),(5,.v (.int .i64 (g1 x.H x.xs.length))),(10,.v (.int .i64 q.2))]) (fun q=>hp a q.1++[slA 1 bv sd (heldL x.H)]) (fun i q=>q.1.H=p2 x.H i∧q.2=d2 x.H i) ((z0,0):HX×Nat) ⟨by show z0.H=p1 x.H x.H.cells.length;rw[hz0,hl],rfl⟩ (fun i q hi hv=>?_) (fun q hv=>?_) (hl:=by
  have:z0.hdr.nc=x.xs.length:=by omega
  rw[this]
  repeat(first|exact trivial|refine⟨rfl,?_⟩))
 ·obtain⟨z,d⟩:=q
  obtain⟨hz,hd⟩:=hv
  simp only at hz hd
  subst hd
  dsimp only
  obtain⟨lk,lc,_,_,_⟩:=p2_ok x.H i (by omega)
  rw[←hz]at lk lc
  have hzl:=z.len
  have hzn:z.hdr.nc=z.xs.length:=rfl
  have hzx:z.xs.length=x.xs.length:=by rw[←hzl,lk.len,hl]
  obtain⟨y,gy,gyc⟩:=HX.at (x:=z) (i:=i) (by omega)
  have gk:=HX.gc gy
  have hd2:=d2_le x.H i
  have hlast:y.c.last=(x.H.getC i).last:=by rw[←gk,lc i (Nat.le_refl _),hl];exact lla0 i
  have hgi:=heldL_get (H:=x.H) (j:=i) (by omega)
  have ed:d2 x.H (i+1)=if ¬Held x.H i∧y.c.last=1 then d2 x.H i+1 else d2 x.H i:=by show(if _ then _ else _)=_;rw[hlast]
  have ep:p2 x.H (i+1)=if ¬Held x.H i∧y.c.last=1 then{z.H with cells:=z.H.cells.set i {z.H.getC i with last:=2}}else z.H:=by show(if _ then _ else _)=_;rw[hlast,hz]
  have gy':z.xs[(i:Int).toNat]?=some y:=gy
  by_cases hh:Held x.H i
  ·rw[decide_eq_true hh]at hgi
   have hgi':(heldL x.H)[(i:Int).toNat]?=some true:=hgi
   rw[if_neg (fun h=>h.1 hh)]at ed ep
   repeat' (first
    |(refine k_L ?_;first|refine a_p rfl ?_|(refine k_g ?_;first|refine a_gy rfl rfl ?_|refine a_gn rfl rfl ?_|(refine a_gd rfl (fun hb=>?_) (fun hb=>?_)<;>try(exfalso;omega)))|(refine k_l ?_;refine g_l rfl ?_)|(refine k_i ?_;refine g_i rfl rfl ?_))
    |refine a_n ?_
    |(refine k_V ?_;first|refine v_seq ?_|refine v_reg ?_|refine v_skip ?_|refine v_cf rfl ?_))
   all_goals exact r_nx ((z,d2 x.H i):HX×Nat) ⟨ep.symm,ed.symm⟩
  ·rw[decide_eq_false hh]at hgi
   have hgi':(heldL x.H)[(i:Int).toNat]?=some false:=hgi
   by_cases hl1:y.c.last=1
   ·rw[if_pos ⟨hh,hl1⟩]at ed ep
    repeat' (first
     |(refine k_L ?_;first|(refine k_ad ?_;refine g_ad rfl rfl ?_)|refine a_p rfl ?_|(refine k_g ?_;first|refine a_gy rfl rfl ?_|(refine a_gd rfl (fun hb=>?_) (fun hb=>?_)<;>try(exfalso;omega)))|(refine k_l ?_;refine g_l rfl ?_)|(refine k_i ?_;refine g_i rfl rfl ?_)|(refine k_st ?_;refine g_st rfl rfl rfl rfl ?_))
     |refine a_n ?_
     |(refine k_V ?_;first|refine v_seq ?_|refine v_reg ?_|refine v_ct rfl ?_))
    generalize hZ:({z with xs:=z.xs.set i (y.s_last 2)}:HX)=Z
    have hdr:z.hdr=Z.hdr:=by rw[←hZ];simp[HX.hdr]
    have zH:Z.H=p2 x.H (i+1):=by
     rw[←hZ,ep,gk]
     unfold HX.H
     simp only[List.map_set]
     rfl
    refine r_nx ((Z,d2 x.H (i+1)):HX×Nat) ⟨zH,rfl⟩ (hl:=?_) (he:=?_)
    ·dsimp only
     rw[ed]
     repeat(first|exact trivial|refine⟨rfl,?_⟩)
    ·rw[hdr]
     dsimp only
     have e1:Z.rd=z.rd∧Z.regs=z.regs∧Z.cd=z.cd∧Z.gd=z.gd∧Z.gray=z.gray∧Z.xs=z.xs.set i (y.s_last 2):=by rw[←hZ];exact⟨rfl,rfl,rfl,rfl,rfl,rfl⟩
     show Ent _ ([hdA a Z.hdr,slA 3 wv Z.rd Z.regs,clA Z.cd Z.xs,slA 1 iv Z.gd Z.gray]++[slA 1 bv sd (heldL x.H)])
     rw[e1.1,e1.2.1,e1.2.2.1,e1.2.2.2.1,e1.2.2.2.2.1,e1.2.2.2.2.2]
     exact Pm.ent pmt
   ·rw[if_neg (fun h=>hl1 h.2)]at ed ep
    repeat' (first
     |(refine k_L ?_;first|refine a_p rfl ?_|(refine k_g ?_;first|refine a_gn rfl rfl ?_|(refine a_gd rfl (fun hb=>?_) (fun hb=>?_)<;>try(exfalso;omega)))|(refine k_l ?_;refine g_l rfl ?_)|(refine k_i ?_;refine g_i rfl rfl ?_))
     |refine a_n ?_
     |(refine k_V ?_;first|refine v_seq ?_|refine v_reg ?_|refine v_skip ?_|refine v_cf rfl ?_))
    all_goals exact r_nx ((z,d2 x.H i):HX×Nat) ⟨ep.symm,ed.symm⟩
 ·obtain⟨z,d⟩:=q
  obtain⟨hz,hd⟩:=hv
  simp only at hz hd
  subst hd
  dsimp only
  repeat' (first
   |(refine k_L ?_;refine a_p rfl ?_)
   |refine a_n ?_
   |(refine k_V ?_;first|refine v_seq ?_|refine v_reg ?_|refine v_ret ?_))
  refine fa_r (As':=hp a z) (fun _ _=>rfl) (Pm.ent pmt) ⟨z,?_,rfl,?_⟩
  ·rw[hl]
  ·unfold Heap.settleH
   rw[hz,hl]
theorem fna_rd{P:Program}{f:FuncId}{args:List Value}{Bs:List Asr}{v:Value}(h:∀m,star Bs m→FnA P f args [ro m] (fun u As=>u=v∧As=[ro m])):FnA P f args Bs (fun u As=>u=v∧As=Bs):=
 (fna_ro (q:=fun u E=>u=v∧E=[]) fun m hm=>(h m hm).mono fun u As hq=>⟨[],⟨hq.1,rfl⟩,hq.2⟩).mono fun u As hq=>by
   obtain⟨E,⟨h1,rfl⟩,h2⟩:=hq
   exact⟨h1,h2⟩
section
variable {a:Nat} {x:HX} {n:Int} {ka kb kc:Nat}
theorem do_18(h:Sound x.H)(hP:ActP ⟨18,ka,kb,kc,n⟩):FnA Tryz.prog 130 [ptr a,.agg #[.int .i64 18,.int .i64 ka,.int .i64 kb,.int .i64 kc,.int .i64 n]] (hp a x) (fun v As=>∃z:HX,v=an 0 (d2 x.H x.H.cells.length:Nat)∧As=hp a z∧z.H=x.H.settleH):=by
 refine fnA_of (fun h=>fn130 (by simp) h) ?_
 repeat' (first
  |(refine k_L ?_;first|refine a_p rfl ?_|(refine k_st ?_;refine g_sw rfl rfl rfl rfl (Nat.le_of_ble_eq_true rfl) ?_)|(refine k_al ?_;refine a_al ?_)|(refine k_bx ?_;refine a_bx rfl rfl ?_)|(refine k_c ?_;first|refine a_cq rfl (fun m hm=>actOk_t (b:=⟨18,ka,kb,kc,n⟩) hP) ?_|refine a_cq rfl (fun m hm=>l5fine_q) ?_)|(refine g_c rfl (l4settle_a (x:=x) h) (fun v As' hq=>?_);obtain⟨z,rfl,rfl,hz⟩:=hq))
  |refine a_n ?_
  |(refine k_V ?_;first|refine v_seq ?_|refine v_reg ?_|refine v_bs ?_|refine v_ret ?_|refine v_skip ?_|refine v_ct rfl ?_|refine v_cf rfl ?_)
  |refine s_r ?_
  |refine b_r ?_
  |refine sk_zero ?_
  |refine sk_succ ?_
  |refine wk_nil ?_
  |refine wk_cons ?_)
 all_goals exact fa_r (fun _ _=>rfl) (Pm.ent pmt) ⟨z,rfl,rfl,hz⟩
theorem do_19(h:Sound x.H)(hP:ActP ⟨19,ka,kb,kc,n⟩):FnA Tryz.prog 130 [ptr a,.agg #[.int .i64 19,.int .i64 ka,.int .i64 kb,.int .i64 kc,.int .i64 n]] (hp a x) (fun v As=>∃z:HX,v=an (doDue x.H ⟨19,ka,kb,kc,n⟩).code (doDue x.H ⟨19,ka,kb,kc,n⟩).num∧As=hp a z∧z.H=(doDue x.H ⟨19,ka,kb,kc,n⟩).heap):=by
 have hQ:=hP
 simp[ActP,aMost,bMost,cMost]at hQ
 refine fnA_of (fun h=>fn130 (by simp) h) ?_
 repeat' (first
  |(refine k_L ?_;first|refine a_p rfl ?_|(refine k_st ?_;refine g_sw rfl rfl rfl rfl (Nat.le_of_ble_eq_true rfl) ?_)|(refine k_al ?_;refine a_al ?_)|(refine k_bx ?_;refine a_bx rfl rfl ?_)|(refine k_c ?_;refine a_cq rfl (fun m hm=>actOk_t (b:=⟨19,ka,kb,kc,n⟩) hP) ?_)|(refine g_c rfl (l5due_a (x:=x) (b:=⟨19,ka,kb,kc,n⟩) h (by simp;omega)) (fun v As' hq=>?_);obtain⟨z,rfl,rfl,hz⟩:=hq))
  |refine a_n ?_
  |(refine k_V ?_;first|refine v_seq ?_|refine v_reg ?_|refine v_bs ?_|refine v_ret ?_|refine v_skip ?_|refine v_ct rfl ?_|refine v_cf rfl ?_)
  |refine s_r ?_
  |refine b_r ?_
  |refine sk_zero ?_
  |refine sk_succ ?_
  |refine wk_nil ?_
  |refine wk_cons ?_)
 all_goals exact fa_r (fun _ _=>rfl) (Pm.ent pmt) ⟨z,rfl,rfl,hz⟩
theorem do_20(h:Sound x.H)(hP:ActP ⟨20,ka,kb,kc,n⟩):FnA Tryz.prog 130 [ptr a,.agg #[.int .i64 20,.int .i64 ka,.int .i64 kb,.int .i64 kc,.int .i64 n]] (hp a x) (fun v As=>v=an 0 (sumT x.H (heldL x.H) x.H.cells.length)∧As=hp a x):=by
 refine fna_rd fun m hm=>?_
 have hh:Has m (hp a x):=⟨m,Mem.le_refl _,hm⟩
 refine fnA_of (fun h=>fn130 (by simp) h) ?_
 repeat' (first
  |(refine k_L ?_;first|refine a_p rfl ?_|(refine k_st ?_;refine g_sw rfl rfl rfl rfl (Nat.le_of_ble_eq_true rfl) ?_)|(refine k_al ?_;refine a_al ?_)|(refine k_bx ?_;refine a_bx rfl rfl ?_)|(refine k_c ?_;first|refine a_cq rfl (fun m hm=>actOk_t (b:=⟨20,ka,kb,kc,n⟩) hP) ?_|refine a_cq rfl (fun m hm=>l5fine_q) ?_)|(refine g_c rfl (l2holds_a (x:=x) hh h.r1 h.r2 h.r4) (fun v As' hq=>?_);obtain⟨sd,rfl,rfl⟩:=hq)|(refine g_c rfl (l2sum_a (L:=heldL x.H) hh h.r1 h.r2 (by rw[heldL_len,x.len]) (fun i c hi hc=>by obtain⟨c',hc',hst,_⟩:=held_ok h.r2 h.r4 (heldL_at hi);rw[hc]at hc';cases hc';exact hst)) (fun v As' hq=>?_);obtain⟨rfl,rfl⟩:=hq))
  |refine a_n ?_
  |(refine k_V ?_;first|refine v_seq ?_|refine v_reg ?_|refine v_bs ?_|refine v_ret ?_|refine v_skip ?_|refine v_ct rfl ?_|refine v_cf rfl ?_)
  |refine s_r ?_
  |refine b_r ?_
  |refine sk_zero ?_
  |refine sk_succ ?_
  |refine wk_nil ?_
  |refine wk_cons ?_)
 all_goals exact fa_r (As':=[ro m]) (fun _ _=>rfl) (Pm.ent pmt) ⟨by rw[x.len];rfl,rfl⟩
theorem do_21(h:Sound x.H)(hP:ActP ⟨21,ka,kb,kc,n⟩):FnA Tryz.prog 130 [ptr a,.agg #[.int .i64 21,.int .i64 ka,.int .i64 kb,.int .i64 kc,.int .i64 n]] (hp a x) (fun v As=>v=an 0 (sumT x.H (reachL x.H) x.H.cells.length)∧As=hp a x):=by
 refine fna_rd fun m hm=>?_
 have hh:Has m (hp a x):=⟨m,Mem.le_refl _,hm⟩
 refine fnA_of (fun h=>fn130 (by simp) h) ?_
 repeat' (first
  |(refine k_L ?_;first|refine a_p rfl ?_|(refine k_st ?_;refine g_sw rfl rfl rfl rfl (Nat.le_of_ble_eq_true rfl) ?_)|(refine k_al ?_;refine a_al ?_)|(refine k_bx ?_;refine a_bx rfl rfl ?_)|(refine k_c ?_;first|refine a_cq rfl (fun m hm=>actOk_t (b:=⟨21,ka,kb,kc,n⟩) hP) ?_|refine a_cq rfl (fun m hm=>l5fine_q) ?_)|(refine g_c rfl (l2live_a (x:=x) hh h.r1 h.r2 h.r4) (fun v As' hq=>?_);obtain⟨rfl,rfl⟩:=hq))
  |refine a_n ?_
  |(refine k_V ?_;first|refine v_seq ?_|refine v_reg ?_|refine v_bs ?_|refine v_ret ?_|refine v_skip ?_|refine v_ct rfl ?_|refine v_cf rfl ?_)
  |refine s_r ?_
  |refine b_r ?_
  |refine sk_zero ?_
  |refine sk_succ ?_
  |refine wk_nil ?_
  |refine wk_cons ?_)
 all_goals exact fa_r (As':=[ro m]) (fun _ _=>rfl) (Pm.ent pmt) ⟨by rw[x.len];rfl,rfl⟩
theorem do_22(h:Sound x.H)(hP:ActP ⟨22,ka,kb,kc,n⟩):FnA Tryz.prog 130 [ptr a,.agg #[.int .i64 22,.int .i64 ka,.int .i64 kb,.int .i64 kc,.int .i64 n]] (hp a x) (fun v As=>∃z:HX,v=an 0 0∧As=hp a z∧z.H=x.H.stepH kc):=by
 have hQ:=hP
 simp[ActP,aMost,bMost,cMost]at hQ
 refine fnA_of (fun h=>fn130 (by simp) h) ?_
 repeat' (first
  |(refine k_L ?_;first|refine a_p rfl ?_|(refine k_st ?_;refine g_sw rfl rfl rfl rfl (Nat.le_of_ble_eq_true rfl) ?_)|(refine k_al ?_;refine a_al ?_)|(refine k_bx ?_;refine a_bx rfl rfl ?_)|(refine k_c ?_;first|refine a_cq rfl (fun m hm=>actOk_t (b:=⟨22,ka,kb,kc,n⟩) hP) ?_|refine a_cq rfl (fun m hm=>l5fine_q) ?_)|(refine g_c rfl (l3step_a (x:=x) (n:=(kc:Int)) h (by omega)) (fun v As' hq=>?_);obtain⟨z,rfl,rfl,hz⟩:=hq))
  |refine a_n ?_
  |(refine k_V ?_;first|refine v_seq ?_|refine v_reg ?_|refine v_bs ?_|refine v_ret ?_|refine v_skip ?_|refine v_ct rfl ?_|refine v_cf rfl ?_)
  |refine sk_zero ?_
  |refine sk_succ ?_
  |refine wk_nil ?_
  |refine wk_cons ?_)
 all_goals exact fa_r (fun _ _=>rfl) (Pm.ent pmt) ⟨z,rfl,rfl,hz⟩
theorem do_23(h:Sound x.H)(hP:ActP ⟨23,ka,kb,kc,n⟩):FnA Tryz.prog 130 [ptr a,.agg #[.int .i64 23,.int .i64 ka,.int .i64 kb,.int .i64 kc,.int .i64 n]] (hp a x) (fun v As=>∃z:HX,v=an 0 0∧As=hp a z∧z.H={x.H with per:=kb,start:=kc}):=by
 refine fnA_of (fun h=>fn130 (by simp) h) ?_
 repeat' (first
  |(refine k_L ?_;first|refine a_p rfl ?_|(refine k_st ?_;first|refine g_st rfl rfl rfl rfl ?_|refine g_sw rfl rfl rfl rfl (Nat.le_of_ble_eq_true rfl) ?_)|(refine k_al ?_;refine a_al ?_)|(refine k_bx ?_;refine a_bx rfl rfl ?_)|(refine k_c ?_;first|refine a_cq rfl (fun m hm=>actOk_t (b:=⟨23,ka,kb,kc,n⟩) hP) ?_|refine a_cq rfl (fun m hm=>l5fine_q) ?_))
  |refine a_n ?_
  |(refine k_V ?_;first|refine v_seq ?_|refine v_reg ?_|refine v_bs ?_|refine v_ret ?_|refine v_skip ?_|refine v_ct rfl ?_|refine v_cf rfl ?_)
  |refine sk_zero ?_
  |refine sk_succ ?_
  |refine wk_nil ?_
  |refine wk_cons ?_)
 all_goals exact fa_r (fun _ _=>rfl) (Pm.ent (fin ({x with per:=kb,start:=kc}:HX))) ⟨_,rfl,rfl,rfl⟩
theorem do_24(h:Sound x.H)(hP:ActP ⟨24,ka,kb,kc,n⟩):FnA Tryz.prog 130 [ptr a,.agg #[.int .i64 24,.int .i64 ka,.int .i64 kb,.int .i64 kc,.int .i64 n]] (hp a x) (fun v As=>∃z:HX,v=an 0 0∧As=hp a z∧z.H=x.H.roundH):=by
 refine fnA_of (fun h=>fn130 (by simp) h) ?_
 repeat' (first
  |(refine k_L ?_;first|refine a_p rfl ?_|(refine k_st ?_;refine g_sw rfl rfl rfl rfl (Nat.le_of_ble_eq_true rfl) ?_)|(refine k_al ?_;refine a_al ?_)|(refine k_bx ?_;refine a_bx rfl rfl ?_)|(refine k_c ?_;first|refine a_cq rfl (fun m hm=>actOk_t (b:=⟨24,ka,kb,kc,n⟩) hP) ?_|refine a_cq rfl (fun m hm=>l5fine_q) ?_)|(refine g_c rfl (l3round_a (x:=x) h) (fun v As' hq=>?_);obtain⟨z,rfl,hz⟩:=hq))
  |refine a_n ?_
  |(refine k_V ?_;first|refine v_seq ?_|refine v_reg ?_|refine v_bs ?_|refine v_ret ?_|refine v_skip ?_|refine v_ct rfl ?_|refine v_cf rfl ?_)
  |refine sk_zero ?_
  |refine sk_succ ?_
  |refine wk_nil ?_
  |refine wk_cons ?_)
 all_goals exact fa_r (fun _ _=>rfl) (Pm.ent pmt) ⟨z,rfl,rfl,hz⟩
end
theorem l5do_a{a:Nat}{x:HX}{b:Act}(h:Sound x.H):FnA Tryz.prog 130 [ptr a,actV b] (hp a x) (fun v As=>∃z:HX,v=an (actA x.H b).code (actA x.H b).num∧As=hp a z∧z.H=(actA x.H b).heap):=by
 obtain⟨op,aa,ab,ac,n⟩:=b
 unfold actA
 by_cases hP:ActP ⟨op,aa,ab,ac,n⟩
 ·rw[if_pos hP]
  have hP0:=hP
  obtain⟨⟨h1,h2⟩,h3,⟨h4,_⟩,⟨h5,_⟩,h6,_⟩:=hP0
  dsimp only at h1 h2 h4 h5 h6
  obtain⟨ka,rfl⟩:=Int.eq_ofNat_of_zero_le h4
  obtain⟨kb,rfl⟩:=Int.eq_ofNat_of_zero_le h5
  obtain⟨kc,rfl⟩:=Int.eq_ofNat_of_zero_le h6
  have ho:op=1∨op=2∨op=3∨op=4∨op=5∨op=6∨op=7∨op=8∨op=9∨op=10∨op=11∨op=12∨op=13∨op=14∨op=15∨op=16∨op=17∨op=18∨op=19∨op=20∨op=21∨op=22∨op=23∨op=24:=by omega
  rcases ho with rfl|rfl|rfl|rfl|rfl|rfl|rfl|rfl|rfl|rfl|rfl|rfl|rfl|rfl|rfl|rfl|rfl|rfl|rfl|rfl|rfl|rfl|rfl|rfl
  ·exact do_1 h hP
  ·exact do_2 h hP
  ·exact do_3 h hP
  ·exact do_4 h hP
  ·exact do_5 h hP
  ·exact do_6 h hP
  ·exact do_7 h hP
  ·exact do_8 h hP
  ·exact do_9 h hP
  ·exact do_10 h hP
  ·exact do_11 h hP
  ·exact do_12 h hP
  ·exact(do_13 h hP).mono fun v As hq=>⟨x,hq.1,hq.2,rfl⟩
  ·exact(do_14 h hP).mono fun v As hq=>⟨x,hq.1,hq.2,rfl⟩
  ·refine(do_15 h hP).mono fun v As hq=>⟨x,?_,hq.2,?_⟩
   ·rw[hq.1]
    show _=an (if(x.H.getR ka).kind=1 then(⟨x.H,0,(x.H.getR ka).num⟩:Out)else⟨x.H,2,0⟩).code (if(x.H.getR ka).kind=1 then(⟨x.H,0,(x.H.getR ka).num⟩:Out)else⟨x.H,2,0⟩).num
    split<;>rfl
   ·show x.H=(if(x.H.getR ka).kind=1 then(⟨x.H,0,(x.H.getR ka).num⟩:Out)else⟨x.H,2,0⟩).heap
    split<;>rfl
  ·exact do_16 h hP
  ·exact do_17 h hP
  ·exact do_18 h hP
  ·exact do_19 h hP
  ·exact(do_20 h hP).mono fun v As hq=>⟨x,hq.1,hq.2,rfl⟩
  ·exact(do_21 h hP).mono fun v As hq=>⟨x,hq.1,hq.2,rfl⟩
  ·exact do_22 h hP
  ·exact do_23 h hP
  ·exact do_24 h hP
 ·rw[if_neg hP]
  refine fnA_of (fun h=>fn130 (by simp) h) ?_
  repeat' (first
   |(refine k_L ?_;first|refine a_p rfl ?_|(refine k_st ?_;refine g_sw rfl rfl rfl rfl (Nat.le_of_ble_eq_true rfl) ?_)|(refine k_al ?_;refine a_al ?_)|(refine k_bx ?_;refine a_bx rfl rfl ?_)|(refine k_c ?_;first|refine a_cq rfl (fun m hm=>qt_e (specActOk_q (a:=⟨op,aa,ab,ac,n⟩)) (congrArg Value.bool (decide_eq_false hP))) ?_|refine a_cq rfl (fun m hm=>l5bad_q) ?_))
   |refine a_n ?_
   |(refine k_V ?_;first|refine v_seq ?_|refine v_reg ?_|refine v_ret ?_|refine v_ct rfl ?_)
   |refine s_r ?_
   |refine sk_zero ?_
   |refine sk_succ ?_
   |refine wk_nil ?_
   |refine wk_cons ?_)
  all_goals exact fa_r (fun _ _=>rfl) (Pm.ent pmt) ⟨x,rfl,rfl,rfl⟩
end Go.Proofs.YtcjmodomfilagaaGreat.E
