/- A part of the proof. Conditions: none. -/
import Derived.Test.YtpleoapljeffiaaDoorKF6
set_option linter.unusedVariables false
set_option linter.unusedSimpArgs false
set_option maxHeartbeats 4000000
set_option maxRecDepth 100000
namespace Go.Proofs.YtpleoapljeffiaaDoor.E
open Go
open Classical
noncomputable def setM(p:Int→Prop):Int→Option Value:=fun i=>if p i then some (.bool true)else none
theorem setM_get{p:Int→Prop}{j:Int}{ok:Bool}(h:ok=false):(if ok then Value.tuple #[(setM p j).getD (.bool false),.bool (setM p j).isSome]else(setM p j).getD (.bool false))=.bool (decide (p j)):=by
 subst h
 unfold setM
 by_cases hp:p j<;>simp[hp]
theorem setM_set{p q:Int→Prop}{j:Int}(h:∀i,q i↔i=j∨p i):(fun i=>if i=j then some (Value.bool true)else setM p i)=setM q:=by
 funext i
 unfold setM
 by_cases e:i=j
 ·simp[e,(h j).2 (.inl rfl)]
 ·rw[if_neg e]
  by_cases hp:p i
  ·rw[if_pos hp,if_pos ((h i).2 (.inr hp))]
  ·rw[if_neg hp,if_neg (fun hq=>((h i).1 hq).elim e hp)]
theorem setM_none:(fun _=>none:Int→Option Value)=setM (fun _=>False):=by funext i;simp[setM]
theorem rule5_q{m:Mem}{a:Nat}{x:HX}(h:Has m (hp a x)):Qt Tryd.prog 22 [ptr a] m (.bool (decide (R5 x.H))):=by
 have hb:=h.lens
 have hl:=x.len
 refine qt_of (fnA_of (fun h=>fn22 (by simp) h) ?_)
 repeat' (first
  |(refine k_L ?_;first|refine a_p rfl ?_|(refine k_l ?_;refine g_l rfl ?_)|(refine k_c ?_;refine a_cq rfl (fun m hm=>marking_g h hm) ?_))
  |refine a_n ?_
  |(refine k_V ?_;first|refine v_seq ?_|refine v_reg ?_|refine v_skip ?_|(refine v_cd rfl (fun hb=>?_) (fun hb=>?_)<;>try(exfalso;omega)))
  |refine s_n ?_)
 ·have hmk:=hb
  refine a_mm (fun b=>?_)
  rw[setM_none,show(fun _=>False:Int→Prop)=fun g=>g∈x.gray.take 0 from by funext g;simp]
  repeat' (first
   |(refine k_L ?_;first|refine a_p rfl ?_|(refine k_l ?_;refine g_l rfl ?_))
   |refine a_n ?_
   |(refine k_V ?_;first|refine v_seq ?_|refine v_reg ?_)
   |refine s_n ?_)
  refine g_range x.gray.length (fun _:Nat=>[(0,.v (ptr a)),(3,.v (.map (some b))),(16,.v (.slice x.gd.a x.gray.length x.gd.cap))]) (fun i=>[mpA b (setM (fun g=>g∈x.gray.take i)),ro m]) (fun i j=>j=i∧(x.gray.take i).Nodup∧∀g,g∈x.gray.take i→0≤g∧g<x.H.cells.length∧(x.H.getC g).state=1∧(x.H.getC g).color=1) 0 ⟨rfl,by simp,by simp⟩ (fun i j hi hv=>?_) (fun j hv=>?_)
  ·obtain⟨rfl,hnd,hv⟩:=hv
   obtain⟨g,gg⟩:∃g,x.gray[j]?=some g:=⟨_,List.getElem?_eq_getElem hi⟩
   have hgm:=List.mem_of_getElem? gg
   have hnc:(x.hdr.nc:Int)=x.H.cells.length:=by rw[hl];rfl
   have htk:x.gray.take (j+1)=x.gray.take j++[g]:=by rw[List.take_add_one,gg];rfl
   have hnin:x.H.gray.Nodup→g∉x.gray.take j:=by
    intro hn hm
    have:x.gray=x.gray.take j++x.gray.drop j:=(List.take_append_drop _ _).symm
    have hn':(x.gray.take j++x.gray.drop j).Nodup:=by rw[←this];exact hn
    rw[List.nodup_append]at hn'
    refine hn'.2.2 g hm g ?_ rfl
    refine List.mem_of_getElem? (i:=0) ?_
    rw[List.getElem?_drop];simpa using gg
   by_cases hin:0≤g∧g<x.H.cells.length
   ·obtain⟨y,gy,gc⟩:=HX.atI (x:=x) hin.1 (by omega)
    repeat' (first
     |(refine k_L ?_;first|(refine k_su ?_;refine g_su rfl rfl ?_)|refine a_p rfl ?_|(refine k_g ?_;first|refine a_gy rfl rfl ?_|refine a_gn rfl rfl ?_|(refine a_gd rfl (fun hb=>?_) (fun hb=>?_)<;>try(exfalso;omega))|(refine a_gne rfl (fun hb=>?_) (fun hb=>?_)<;>try(exfalso;omega))|(refine a_gnd rfl (fun hb=>?_) (fun hb=>?_)<;>try(exfalso;omega)))|(refine k_l ?_;refine g_l rfl ?_)|(refine k_i ?_;refine g_i rfl rfl ?_)|(refine k_c ?_;refine a_cq rfl (fun m hm=>impl.withinQ) ?_)|(refine a_lk (by(fail_if_success apply pk_bad);(repeat(first|exact pk_h|apply pk_t));fail_if_success focus skip) rfl rfl (setM_get rfl) ?_)|(refine a_mu (by(fail_if_success apply pk_bad);(repeat(first|exact pk_h|apply pk_t));fail_if_success focus skip) rfl rfl rfl ?_;rw[setM_set (q:=fun g=>g∈x.gray.take (j+1)) (fun i=>by rw[htk];simp[or_comm])]))
     |refine a_n ?_
     |(refine k_V ?_;first|refine v_rv ?_|refine v_seq ?_|refine v_reg ?_|refine v_skip ?_|refine v_ct rfl ?_|(refine v_cn rfl (fun hb=>?_) (fun hb=>?_)<;>try(exfalso;omega)))
     |refine s_r ?_
     |refine r_rt ?_)
    ·exact q_F fun h5=>absurd ‹g∈x.gray.take j› (hnin (h5.mark ‹_›).1)
    ·exact q_F fun h5=>absurd (gc▸((h5.mark ‹_›).2.1 g hgm).2.2.1) ‹_›
    ·exact q_F fun h5=>absurd (gc▸((h5.mark ‹_›).2.1 g hgm).2.2.2) ‹_›
    ·refine r_nx (j+1) ⟨rfl,?_,fun g' hg'=>?_⟩
     ·rw[htk]
      exact List.nodup_append.2 ⟨hnd,by simp,fun u hu v hv e=>by simp at hv;subst hv;subst e;exact ‹¬_› hu⟩
     ·rw[htk]at hg'
      rcases List.mem_append.1 hg' with hg'|hg'
      ·exact hv g' hg'
      ·simp at hg';subst hg'
       exact⟨hin.1,hin.2,by rw[gc];assumption,by rw[gc];assumption⟩
   ·repeat' (first
     |(refine k_L ?_;first|(refine k_su ?_;refine g_su rfl rfl ?_)|refine a_p rfl ?_|(refine k_g ?_;first|refine a_gn rfl rfl ?_|(refine a_gnd rfl (fun hb=>?_) (fun hb=>?_)<;>try(exfalso;omega)))|(refine k_l ?_;refine g_l rfl ?_)|(refine k_i ?_;refine g_i rfl rfl ?_)|(refine k_c ?_;refine a_cq rfl (fun m hm=>impl.withinQ) ?_))
     |refine a_n ?_
     |(refine k_V ?_;first|refine v_rv ?_|refine v_seq ?_|refine v_reg ?_|refine v_ct rfl ?_)
     |refine s_r ?_
     |refine r_rt ?_)
    exact q_F fun h5=>hin ⟨((h5.mark ‹_›).2.1 g hgm).1,((h5.mark ‹_›).2.1 g hgm).2.1⟩
  ·obtain⟨rfl,hnd,hv⟩:=hv
   rw[List.take_length]at hnd hv⊢
   repeat' (first
    |(refine k_L ?_;first|refine a_p rfl ?_|(refine k_l ?_;refine g_l rfl ?_))
    |refine a_n ?_
    |(refine k_V ?_;first|refine v_seq ?_|refine v_reg ?_)
    |refine s_n ?_)
   refine g_range x.xs.length (fun _:Unit=>[(3,.v (.map (some b))),(64,.v (.slice x.cd.a x.xs.length x.cd.cap))]) (fun _=>[mpA b (setM (fun g=>g∈x.gray)),ro m]) (fun i _=>∀(j:Nat) c,j<i→x.H.cells[j]?=some c→c.color=1→(j:Int)∈x.gray) () (fun j c hj=>by omega) (fun i _ hi hw=>?_) (fun _ hw=>?_)
   ·obtain⟨y,gy,gc⟩:=HX.at hi
    repeat' (first
     |(refine k_L ?_;first|refine a_p rfl ?_|(refine k_g ?_;first|refine a_gy rfl rfl ?_|refine a_gn rfl rfl ?_|(refine a_gd rfl (fun hb=>?_) (fun hb=>?_)<;>try(exfalso;omega)))|(refine k_i ?_;refine g_i rfl rfl ?_)|(refine k_ls ?_;refine g_ls rfl ?_)|(refine k_st ?_;refine g_sw rfl rfl rfl rfl (Nat.le_of_ble_eq_true rfl) ?_)|(refine k_al ?_;refine a_al ?_)|(refine a_lk (by(fail_if_success apply pk_bad);(repeat(first|exact pk_h|apply pk_t));fail_if_success focus skip) rfl rfl (setM_get rfl) ?_))
     |refine a_n ?_
     |(refine k_V ?_;first|refine v_rv ?_|refine v_seq ?_|refine v_reg ?_|refine v_skip ?_|refine v_cf rfl ?_|(refine v_cnd rfl (fun hb=>?_) (fun hb=>?_)<;>try(exfalso;omega)))
     |refine s_r ?_
     |refine r_rt ?_
     |refine sk_zero ?_
     |refine sk_succ ?_
     |refine wk_nil ?_
     |refine wk_cons ?_)
    ·exact q_F fun h5=>absurd ((h5.mark ‹_›).2.2 i _ gc ‹_›) ‹_›
    all_goals refine r_nx () (fun j c hj hc hk=>?_)
    all_goals (by_cases e:j=i;(subst e;rw[gc]at hc;cases hc;first|assumption|exact absurd hk ‹_›);exact hw j c (by omega) hc hk)
   ·repeat' (first
     |refine a_n ?_
     |(refine k_V ?_;refine v_rv ?_)
     |refine s_r ?_)
    refine q_T ⟨fun _=>⟨hnd,hv,fun i c hc hk=>hw i c (by have:=(List.getElem?_eq_some_iff.1 hc).1;omega) hc hk⟩,fun hn=>absurd hmk hn⟩
 ·have hmk:=hb
  repeat' (first
   |(refine k_L ?_;first|(refine k_ad ?_;refine g_ad rfl rfl ?_)|(refine k_su ?_;refine g_su rfl rfl ?_)|(refine k_ml ?_;refine g_ml rfl rfl ?_)|refine a_p rfl ?_|(refine k_g ?_;first|refine a_gy rfl rfl ?_|refine a_gn rfl rfl ?_|refine a_gu rfl ?_|(refine a_gd rfl (fun hb=>?_) (fun hb=>?_)<;>try(exfalso;omega))|(refine a_ge rfl (fun hb=>?_) (fun hb=>?_)<;>try(exfalso;omega))|(refine a_gne rfl (fun hb=>?_) (fun hb=>?_)<;>try(exfalso;omega))|(refine a_gnd rfl (fun hb=>?_) (fun hb=>?_)<;>try(exfalso;omega)))|(refine k_l ?_;refine g_l rfl ?_)|(refine k_i ?_;refine g_i rfl rfl ?_)|(refine k_ls ?_;refine g_ls rfl ?_)|(refine k_st ?_;first|refine g_st rfl rfl rfl rfl ?_|refine g_sw rfl rfl rfl rfl (Nat.le_of_ble_eq_true rfl) ?_)|(refine k_al ?_;refine a_al ?_)|(refine k_bx ?_;refine a_bx rfl rfl ?_)|(refine k_bl ?_;refine a_bl rfl ?_)|(refine k_p ?_;first|(refine a_pd rfl (fun hb=>?_) (fun hb=>?_)<;>try(exfalso;omega))|(refine a_pe rfl (fun hb=>?_) (fun hb=>?_)<;>try(exfalso;omega))|(refine a_pne rfl (fun hb=>?_) (fun hb=>?_)<;>try(exfalso;omega))|(refine a_pnd rfl (fun hb=>?_) (fun hb=>?_)<;>try(exfalso;omega))))
   |refine a_n ?_
   |(refine k_V ?_;first|refine v_rv ?_|refine v_seq ?_|refine v_reg ?_|refine v_dreg ?_|refine v_zreg ?_|refine v_bs ?_|refine v_br ?_|refine v_bd ?_|refine v_bc ?_|refine v_bk ?_|refine v_bb ?_|refine v_ret ?_|refine v_exit ?_|refine v_skip ?_|refine v_ct rfl ?_|refine v_cf rfl ?_|(refine v_cd rfl (fun hb=>?_) (fun hb=>?_)<;>try(exfalso;omega))|(refine v_ce rfl (fun hb=>?_) (fun hb=>?_)<;>try(exfalso;omega))|(refine v_cn rfl (fun hb=>?_) (fun hb=>?_)<;>try(exfalso;omega))|(refine v_cnd rfl (fun hb=>?_) (fun hb=>?_)<;>try(exfalso;omega)))
   |refine s_n ?_
   |refine s_r ?_
   |refine s_e ?_
   |refine b_n ?_
   |refine b_r ?_
   |refine b_e ?_
   |refine b_o rfl ?_
   |refine r_rt ?_
   |refine r_bk rfl ?_
   |refine r_ex rfl rfl ?_
   |refine sk_zero ?_
   |refine sk_succ ?_
   |refine wk_nil ?_
   |refine wk_cons ?_)
  refine g_range x.xs.length (fun _:Unit=>[(0,.v (ptr a)),(84,.v (.slice x.cd.a x.xs.length x.cd.cap))]) (fun _=>[ro m]) (fun i _=>∀(j:Nat) c,j<i→x.H.cells[j]?=some c→c.color≠1∧(c.color=2→x.H.phase=3∧x.H.hand≤j)) () (fun j c hj=>by omega) (fun i _ hi hw=>?_) (fun _ hw=>?_)
  ·obtain⟨y,gy,gc⟩:=HX.at hi
   repeat' (first
    |(refine k_L ?_;first|refine a_p rfl ?_|(refine k_g ?_;first|refine a_gy rfl rfl ?_|refine a_gn rfl rfl ?_|refine a_gu rfl ?_|(refine a_gd rfl (fun hb=>?_) (fun hb=>?_)<;>try(exfalso;omega))|(refine a_gne rfl (fun hb=>?_) (fun hb=>?_)<;>try(exfalso;omega)))|(refine k_l ?_;refine g_l rfl ?_)|(refine k_i ?_;refine g_i rfl rfl ?_)|(refine k_ls ?_;refine g_ls rfl ?_)|(refine k_st ?_;refine g_sw rfl rfl rfl rfl (Nat.le_of_ble_eq_true rfl) ?_)|(refine k_al ?_;refine a_al ?_))
    |refine a_n ?_
    |(refine k_V ?_;first|refine v_rv ?_|refine v_seq ?_|refine v_reg ?_|refine v_skip ?_|refine v_ct rfl ?_|refine v_cf rfl ?_|(refine v_cd rfl (fun hb=>?_) (fun hb=>?_)<;>try(exfalso;omega)))
    |refine s_r ?_
    |refine r_rt ?_
    |refine sk_zero ?_
    |refine sk_succ ?_
    |refine wk_nil ?_
    |refine wk_cons ?_)
   ·exact q_F fun h5=>absurd ‹y.c.color=1› ((h5.else_ ‹_›).2 i _ gc).1
   ·exact q_F fun h5=>absurd (((h5.else_ ‹_›).2 i _ gc).2 ‹_›).1 ‹_›
   ·exact q_F fun h5=>absurd (((h5.else_ ‹_›).2 i _ gc).2 ‹_›).2 (by show ¬x.hdr.hand≤_;omega)
   all_goals refine r_nx () (fun j c hj hc=>?_)
   all_goals (by_cases e:j=i;(subst e;rw[gc]at hc;cases hc;first|exact⟨‹_›,fun _=>⟨‹_›,by show x.hdr.hand≤_;omega⟩⟩|exact⟨‹_›,fun hk=>absurd hk ‹_›⟩);exact hw j c (by omega) hc)
  ·repeat' (first
    |(refine k_L ?_;first|refine a_p rfl ?_|(refine k_l ?_;refine g_l rfl ?_))
    |refine a_n ?_
    |(refine k_V ?_;first|refine v_seq ?_|refine v_reg ?_|refine v_ret ?_))
   refine q_B (fun _ _=>rfl) ?_
   have hng:x.hdr.ng=x.H.gray.length:=rfl
   constructor
   ·intro he
    have:x.H.gray=[]:=List.eq_nil_of_length_eq_zero (by rw[←hng];simpa using he)
    exact⟨fun hm=>absurd hm hmk,fun _=>⟨this,fun i c hc=>hw i c (by have:=(List.getElem?_eq_some_iff.1 hc).1;omega) hc⟩⟩
   ·intro h5
    have:=(h5.else_ hmk).1
    rw[hng,this];rfl
end Go.Proofs.YtpleoapljeffiaaDoor.E
set_option maxHeartbeats 8000000
namespace Go.Proofs.YtpleoapljeffiaaDoor.E
open Go
open Classical
structure R2p (H:Heap) (n:Nat):Prop where
 each:∀(i:Nat) c,i<n→H.cells[i]?=some c→(c.state=0∧Bare c∧c.to=0)∨MovedOk H i c∨UsedOk H c
 born:∀(i j:Nat) c d,H.cells[i]?=some c→H.cells[j]?=some d→i<j→j<n→c.state=1→d.state=1→c.born≠d.born
 to:∀(i j:Nat) c d,H.cells[i]?=some c→H.cells[j]?=some d→i<j→j<n→c.state=2→d.state=2→c.to≠d.to
def bornB(H:Heap)(n:Nat)(b:Int):Prop:=∃(j:Nat) (c:Cell),j<n∧H.cells[j]?=some c∧c.state=1∧c.born=b
def movedB(H:Heap)(n:Nat)(b:Int):Prop:=∃(j:Nat) (c:Cell),j<n∧H.cells[j]?=some c∧c.state=2∧c.to=b
theorem R2p.zero(H:Heap):R2p H 0:=⟨by omega,by omega,by omega⟩
theorem R2p.all{H:Heap}:R2p H H.cells.length↔R2 H:=
 ⟨fun h=>⟨fun i c hc=>h.each i c (List.getElem?_eq_some_iff.1 hc).1 hc,fun i j c d hc hd hij=>h.born i j c d hc hd hij (List.getElem?_eq_some_iff.1 hd).1,fun i j c d hc hd hij=>h.to i j c d hc hd hij (List.getElem?_eq_some_iff.1 hd).1⟩,
  fun h=>⟨fun i c _=>h.each i c,fun i j c d hc hd hij _=>h.born i j c d hc hd hij,fun i j c d hc hd hij _=>h.to i j c d hc hd hij⟩⟩
theorem R2p.next{H:Heap}{n:Nat}{c:Cell}(h:R2p H n)(hc:H.cells[n]?=some c)(h1:(c.state=0∧Bare c∧c.to=0)∨MovedOk H n c∨UsedOk H c)(h2:c.state=1→¬bornB H n c.born)(h3:c.state=2→¬movedB H n c.to):R2p H (n+1):=by
 refine⟨fun i d hi hd=>?_,fun i j a d ha hd hij hj s1 s2 e=>?_,fun i j a d ha hd hij hj s1 s2 e=>?_⟩
 ·by_cases e:i=n
  ·subst e;rw[hc]at hd;cases hd;exact h1
  ·exact h.each i d (by omega) hd
 ·by_cases e':j=n
  ·subst e';rw[hc]at hd;cases hd;exact h2 s2 ⟨i,a,hij,ha,s1,e⟩
  ·exact h.born i j a d ha hd hij (by omega) s1 s2 e
 ·by_cases e':j=n
  ·subst e';rw[hc]at hd;cases hd;exact h3 s2 ⟨i,a,hij,ha,s1,e⟩
  ·exact h.to i j a d ha hd hij (by omega) s1 s2 e
theorem bornB_next{H:Heap}{n:Nat}{c:Cell}(hc:H.cells[n]?=some c)(b:Int):bornB H (n+1) b↔(c.state=1∧b=c.born)∨bornB H n b:=by
 constructor
 ·rintro⟨j,d,hj,hd,s,e⟩
  by_cases e':j=n
  ·subst e';rw[hc]at hd;cases hd;exact .inl ⟨s,e.symm⟩
  ·exact .inr ⟨j,d,by omega,hd,s,e⟩
 ·rintro(⟨s,e⟩|⟨j,d,hj,hd,s,e⟩)
  ·exact⟨n,c,by omega,hc,s,e.symm⟩
  ·exact⟨j,d,by omega,hd,s,e⟩
theorem movedB_next{H:Heap}{n:Nat}{c:Cell}(hc:H.cells[n]?=some c)(b:Int):movedB H (n+1) b↔(c.state=2∧b=c.to)∨movedB H n b:=by
 constructor
 ·rintro⟨j,d,hj,hd,s,e⟩
  by_cases e':j=n
  ·subst e';rw[hc]at hd;cases hd;exact .inl ⟨s,e.symm⟩
  ·exact .inr ⟨j,d,by omega,hd,s,e⟩
 ·rintro(⟨s,e⟩|⟨j,d,hj,hd,s,e⟩)
  ·exact⟨n,c,by omega,hc,s,e.symm⟩
  ·exact⟨j,d,by omega,hd,s,e⟩
theorem R2.nborn{H:Heap}(h:R2 H){n:Nat}{c:Cell}(hc:H.cells[n]?=some c)(s:c.state=1):¬bornB H n c.born:=fun⟨j,d,hj,hd,s',e⟩=>h.born j n d c hd hc hj s' s e
theorem R2.nmoved{H:Heap}(h:R2 H){n:Nat}{c:Cell}(hc:H.cells[n]?=some c)(s:c.state=2):¬movedB H n c.to:=fun⟨j,d,hj,hd,s',e⟩=>h.to j n d c hd hc hj s' s e
theorem bornB_same{H:Heap}{n:Nat}{c:Cell}(hc:H.cells[n]?=some c)(s:c.state≠1):bornB H (n+1)=bornB H n:=by
 funext b;rw[eq_iff_iff,bornB_next hc];simp[s]
theorem movedB_same{H:Heap}{n:Nat}{c:Cell}(hc:H.cells[n]?=some c)(s:c.state≠2):movedB H (n+1)=movedB H n:=by
 funext b;rw[eq_iff_iff,movedB_next hc];simp[s]
theorem R2.free{H:Heap}(h:R2 H){n:Nat}{c:Cell}(hc:H.cells[n]?=some c)(s:c.state=0):Bare c∧c.to=0:=by
 rcases h.each n c hc with h|h|h
 ·exact h.2
 ·have:=h.1;omega
 ·have:=h.1;omega
theorem R2.moved{H:Heap}(h:R2 H){n:Nat}{c:Cell}(hc:H.cells[n]?=some c)(s:c.state=2):MovedOk H n c:=by
 rcases h.each n c hc with h|h|h
 ·have:=h.1;omega
 ·exact h
 ·have:=h.1;omega
theorem R2.used{H:Heap}(h:R2 H){n:Nat}{c:Cell}(hc:H.cells[n]?=some c)(s:c.state=1):UsedOk H c:=by
 rcases h.each n c hc with h|h|h
 ·have:=h.1;omega
 ·have:=h.1;omega
 ·exact h
theorem rule2_q{m:Mem}{a:Nat}{x:HX}(h:Has m (hp a x)):Qt Tryd.prog 19 [ptr a] m (.bool (decide (R2 x.H))):=by
 have hb:=h.lens
 have hl:=x.len
 refine qt_of (fnA_of (fun h=>fn19 (by simp) h) ?_)
 refine v_seq ?_
 repeat' (first
  |(refine k_L ?_;refine a_p rfl ?_)
  |refine a_n ?_
  |(refine k_V ?_;refine v_reg ?_)
  |refine s_n ?_)
 refine v_seq ?_
 refine v_reg ?_
 refine a_mm (fun mb=>?_)
 refine a_mm (fun mt=>?_)
 rw[setM_none,show(fun _=>False:Int→Prop)=bornB x.H 0 from by funext b;simp[bornB]]
 repeat' (first
  |(refine k_L ?_;first|refine a_p rfl ?_|(refine k_l ?_;refine g_l rfl ?_))
  |refine a_n ?_
  |(refine k_V ?_;first|refine v_seq ?_|refine v_reg ?_)
  |refine s_n ?_)
 refine g_range x.xs.length (fun _:Nat=>[(0,.v (ptr a)),(3,.v (.map (some mb))),(4,.v (.map (some mt))),(13,.v (.slice x.cd.a x.xs.length x.cd.cap))]) (fun n=>[mpA mt (setM (movedB x.H n)),mpA mb (setM (bornB x.H n)),ro m]) (fun i n=>n=i∧R2p x.H i) 0 ⟨rfl,R2p.zero _⟩ (hent:=by rw[show movedB x.H 0=bornB x.H 0 from by funext b;simp[bornB,movedB]];exact Ent.refl _) (fun i n hi hv=>?_) (fun n hv=>?_)
 ·obtain⟨rfl,hv⟩:=hv
  obtain⟨y,gy,gc⟩:=HX.at hi
  have hbp:y.c.pairs.length≤140737488355328:=by obtain⟨b,l,s⟩:=h;exact(kn_t (kn_t (kn_h (kb_cp gy))):Kn (hp a x) _).out b s
  refine v_seq ?_
  repeat' (first
   |(refine k_L ?_;first|refine a_p rfl ?_|(refine k_i ?_;refine g_i rfl rfl ?_)|(refine k_ls ?_;refine g_ls rfl ?_)|(refine k_st ?_;refine g_sw rfl rfl rfl rfl (Nat.le_of_ble_eq_true rfl) ?_)|(refine k_al ?_;refine a_al ?_))
   |refine a_n ?_
   |(refine k_V ?_;refine v_reg ?_)
   |refine s_n ?_
   |refine sk_zero ?_
   |refine sk_succ ?_
   |refine wk_nil ?_
   |refine wk_cons ?_)
  refine v_seq ?_
  repeat' (first
   |(refine k_L ?_;refine a_p rfl ?_)
   |refine a_n ?_
   |(refine k_V ?_;first|refine v_reg ?_|refine v_bs ?_))
  refine v_seq ?_
  repeat' (first
   |(refine k_L ?_;refine a_p rfl ?_)
   |refine a_n ?_
   |(refine k_V ?_;refine v_reg ?_)
   |refine s_n ?_)
  refine v_ce rfl (fun hs0=>?_) (fun hs0=>?_)
  ·repeat' (first
    |(refine k_L ?_;first|refine a_p rfl ?_|(refine k_g ?_;first|refine a_gy rfl rfl ?_|refine a_gn rfl rfl ?_|(refine a_gnd rfl (fun hb=>?_) (fun hb=>?_)<;>try(exfalso;omega)))|(refine k_c ?_;refine a_cq rfl (fun m hm=>bare_q (y:=y)) ?_))
    |refine a_n ?_
    |(refine k_V ?_;first|refine v_rv ?_|refine v_seq ?_|refine v_reg ?_|refine v_skip ?_|refine v_ct rfl ?_|(refine v_cn rfl (fun hb=>?_) (fun hb=>?_)<;>try(exfalso;omega)))
    |refine s_r ?_
    |refine b_n ?_
    |refine b_r ?_
    |refine r_rt ?_)
   ·exact q_F fun h2=>absurd (h2.free gc hs0).1 ‹_›
   ·exact q_F fun h2=>absurd (h2.free gc hs0).2 ‹_›
   ·exact r_nx (n+1) ⟨rfl,hv.next gc (.inl ⟨hs0,‹_›,‹_›⟩) (fun s=>by omega) (fun s=>by omega)⟩ (he:=by rw[bornB_same gc (by omega),movedB_same gc (by omega)];exact Ent.refl _)
  refine v_seq ?_
  repeat' (first
   |(refine k_L ?_;refine a_p rfl ?_)
   |refine a_n ?_
   |(refine k_V ?_;refine v_reg ?_)
   |refine s_n ?_)
  refine v_ce rfl (fun hs2=>?_) (fun hs2=>?_)
  ·have hnc:(x.hdr.nc:Int)=x.xs.length:=rfl
   by_cases hto:0≤y.c.to∧y.c.to≤(n:Int)-1
   ·obtain⟨z,gz,gzc⟩:=HX.atI (x:=x) hto.1 (by omega)
    refine v_seq ?_
    refine v_seq ?_
    repeat' (first
     |(refine k_L ?_;first|(refine k_su ?_;refine g_su rfl rfl ?_)|refine a_p rfl ?_|(refine k_g ?_;first|refine a_gy rfl rfl ?_|refine a_gn rfl rfl ?_|(refine a_gd rfl (fun hb=>?_) (fun hb=>?_)<;>try(exfalso;omega))|(refine a_gne rfl (fun hb=>?_) (fun hb=>?_)<;>try(exfalso;omega))|(refine a_gnd rfl (fun hb=>?_) (fun hb=>?_)<;>try(exfalso;omega)))|(refine k_l ?_;refine g_l rfl ?_)|(refine k_i ?_;refine g_i rfl rfl ?_)|(refine k_q ?_;first|refine a_q rfl (fun m hm=>bare_q (y:=y)) ?_|refine a_q rfl (fun m hm=>impl.withinQ) ?_)|(refine a_lk (by(fail_if_success apply pk_bad);(repeat(first|exact pk_h|apply pk_t));fail_if_success focus skip) rfl rfl (setM_get rfl) ?_))
     |refine a_n ?_
     |(refine k_V ?_;first|refine v_rv ?_|refine v_dreg ?_|refine v_skip ?_|refine v_ct rfl ?_|(refine v_cd rfl (fun hb=>?_) (fun hb=>?_)<;>try(exfalso;omega)))
     |refine s_n ?_
     |refine s_r ?_
     |refine b_r ?_
     |refine r_rt ?_)
    ·exact q_F fun h2=>absurd (h2.moved gc hs2).2.1 ‹_›
    ·exact q_F fun h2=>absurd (h2.moved gc hs2).2.2.1 (by show ¬4≤x.hdr.phase;omega)
    ·exact q_F fun h2=>absurd (gzc▸(h2.moved gc hs2).2.2.2.2.1) ‹_›
    ·exact q_F fun h2=>absurd ‹movedB _ _ _› (h2.nmoved gc hs2)
    have hmb:¬movedB x.H n y.c.to:=‹_›
    have hzs:z.c.state=1:=‹_›
    have hbare:Bare y.c:=‹_›
    have hph:¬x.hdr.phase<4:=‹_›
    refine v_seq ?_
    repeat' (first
     |(refine k_L ?_;first|refine a_p rfl ?_|(refine a_mu (by(fail_if_success apply pk_bad);(repeat(first|exact pk_h|apply pk_t));fail_if_success focus skip) rfl rfl rfl ?_;rw[setM_set (q:=movedB x.H (n+1)) (fun b=>by rw[movedB_next gc];simp[hs2])]))
     |refine a_n ?_
     |(refine k_V ?_;refine v_reg ?_)
     |refine s_n ?_)
    refine v_seq ?_
    repeat' (first
     |(refine k_L ?_;refine a_p rfl ?_)
     |refine a_n ?_
     |(refine k_V ?_;refine v_reg ?_)
     |refine s_n ?_)
    refine v_blk ?_
    refine v_loop (fun k:Nat=>[(0,.v (ptr a)),(3,.v (.map (some mb))),(4,.v (.map (some mt))),(6,.box (csw y)),(7,.v (.int .i64 k)),(13,.v (.slice x.cd.a x.xs.length x.cd.cap)),(14,.v (.int .i64 x.xs.length)),(15,.v (.int .i64 n))]) (fun _=>[mpA mt (setM (movedB x.H (n+1))),mpA mb (setM (bornB x.H n)),ro m])
     (fun f k=>f=y.c.to.toNat-k∧(k:Int)≤y.c.to∧(x.H.phase=4→∀j:Int,0≤j→j<k→(x.H.getC j).state≠0)) ⟨_,0,⟨rfl,rfl,rfl,rfl,rfl,rfl,rfl,rfl,trivial⟩,Ent.refl _,rfl,by omega,fun _ j _ _=>by omega⟩ ?_
    rintro f k ⟨rfl,hk,hw⟩
    have done:(x.H.phase=4→∀j:Int,0≤j→j<y.c.to→(x.H.getC j).state≠0)→R2p x.H (n+1):=fun hd=>
     hv.next gc (.inr (.inl ⟨hs2,hbare,by show 4≤x.hdr.phase;omega,⟨hto.1,by omega⟩,by rw[gzc];exact hzs,hd⟩)) (fun s=>by omega) (fun _=>hmb)
    by_cases hkt:(k:Int)<y.c.to
    ·obtain⟨u,gu,guc⟩:=HX.atI (x:=x) (i:=(k:Int)) (by omega) (by omega)
     repeat' (first
      |(refine k_L ?_;first|(refine k_ad ?_;refine g_ad rfl rfl ?_)|refine a_p rfl ?_|(refine k_g ?_;first|refine a_gy rfl rfl ?_|(refine a_gd rfl (fun hb=>?_) (fun hb=>?_)<;>try(exfalso;omega)))|(refine k_l ?_;refine g_l rfl ?_)|(refine k_i ?_;refine g_i rfl rfl ?_))
      |refine a_n ?_
      |(refine k_V ?_;first|refine v_rv ?_|refine v_seq ?_|refine v_reg ?_|refine v_bs ?_|refine v_exit ?_|refine v_skip ?_|(refine v_cd rfl (fun hb=>?_) (fun hb=>?_)<;>try(exfalso;omega)))
      |refine s_n ?_
      |refine s_r ?_
      |refine s_e ?_
      |refine b_n ?_
      |refine b_r ?_
      |refine b_e ?_
      |refine r_rt ?_)
     ·exact q_F fun h2=>(h2.moved gc hs2).2.2.2.2.2 ‹_› k (by omega) hkt (by rw[guc];assumption)
     ·refine⟨_,k+1,?_,⟨rfl,rfl,rfl,rfl,rfl,rfl,rfl,rfl,trivial⟩,Ent.refl _,rfl,by omega,fun hp j j0 j1=>?_⟩
      ·omega
      ·by_cases e:j=k
       ·subst e;rw[guc];assumption
       ·exact hw hp j j0 (by omega)
     ·exact r_nx (n+1) ⟨rfl,done fun hp=>absurd hp ‹_›⟩ (he:=by rw[bornB_same gc (by omega)];exact Ent.refl _)
    ·repeat' (first
      |(refine k_L ?_;first|refine a_p rfl ?_|(refine k_g ?_;first|refine a_gn rfl rfl ?_|(refine a_gd rfl (fun hb=>?_) (fun hb=>?_)<;>try(exfalso;omega))))
      |refine a_n ?_
      |(refine k_V ?_;first|refine v_seq ?_|refine v_reg ?_|refine v_exit ?_|refine v_cf rfl ?_)
      |refine s_e ?_
      |refine b_n ?_
      |refine b_e ?_)
     exact r_nx (n+1) ⟨rfl,done fun hp j j0 j1=>hw hp j j0 (by omega)⟩ (he:=by rw[bornB_same gc (by omega)];exact Ent.refl _)
   ·repeat' (first
     |(refine k_L ?_;first|(refine k_su ?_;refine g_su rfl rfl ?_)|refine a_p rfl ?_|(refine k_g ?_;first|refine a_gy rfl rfl ?_|refine a_gn rfl rfl ?_|(refine a_gd rfl (fun hb=>?_) (fun hb=>?_)<;>try(exfalso;omega))|(refine a_gnd rfl (fun hb=>?_) (fun hb=>?_)<;>try(exfalso;omega)))|(refine k_l ?_;refine g_l rfl ?_)|(refine k_q ?_;first|refine a_q rfl (fun m hm=>bare_q (y:=y)) ?_|refine a_q rfl (fun m hm=>impl.withinQ) ?_))
     |refine a_n ?_
     |(refine k_V ?_;first|refine v_rv ?_|refine v_seq ?_|refine v_dreg ?_|refine v_ct rfl ?_)
     |refine s_r ?_
     |refine b_r ?_
     |refine r_rt ?_)
    ·exact q_F fun h2=>absurd (h2.moved gc hs2).2.1 ‹_›
    ·exact q_F fun h2=>absurd (h2.moved gc hs2).2.2.1 (by show ¬4≤x.hdr.phase;omega)
    ·exact q_F fun h2=>hto ⟨(h2.moved gc hs2).2.2.2.1.1,by have:=(h2.moved gc hs2).2.2.2.1.2;omega⟩
  refine v_seq ?_
  repeat' (first
   |(refine k_L ?_;refine a_p rfl ?_)
   |refine a_n ?_
   |(refine k_V ?_;refine v_reg ?_)
   |refine s_n ?_)
  refine v_ce rfl (fun hs1=>?_) (fun hs1=>?_)
  ·repeat' (first
    |(refine k_L ?_;first|refine a_p rfl ?_|(refine k_g ?_;first|refine a_gy rfl rfl ?_|refine a_gn rfl rfl ?_|(refine a_gd rfl (fun hb=>?_) (fun hb=>?_)<;>try(exfalso;omega))|(refine a_gne rfl (fun hb=>?_) (fun hb=>?_)<;>try(exfalso;omega))|(refine a_gnd rfl (fun hb=>?_) (fun hb=>?_)<;>try(exfalso;omega)))|(refine k_l ?_;refine g_l rfl ?_)|(refine k_q ?_;refine a_q rfl (fun m hm=>impl.withinQ) ?_)|(refine a_lk (by(fail_if_success apply pk_bad);(repeat(first|exact pk_h|apply pk_t));fail_if_success focus skip) rfl rfl (setM_get rfl) ?_)|(refine a_mu (by(fail_if_success apply pk_bad);(repeat(first|exact pk_h|apply pk_t));fail_if_success focus skip) rfl rfl rfl ?_;rw[setM_set (q:=bornB x.H (n+1)) (fun b=>by rw[bornB_next gc];simp[hs1])]))
    |refine a_n ?_
    |(refine k_V ?_;first|refine v_rv ?_|refine v_seq ?_|refine v_reg ?_|refine v_dreg ?_|refine v_skip ?_|refine v_ct rfl ?_|(refine v_cd rfl (fun hb=>?_) (fun hb=>?_)<;>try(exfalso;omega)))
    |refine s_r ?_
    |refine b_n ?_
    |refine b_r ?_
    |refine r_rt ?_)
   ·exact q_F fun h2=>absurd (h2.used gc hs1).2.1 ‹_›
   ·exact q_F fun h2=>absurd (h2.used gc hs1).2.2.1 ‹_›
   ·exact q_F fun h2=>absurd (h2.used gc hs1).2.2.2.1 ‹_›
   ·exact q_F fun h2=>absurd (h2.used gc hs1).2.2.2.2.1 ‹_›
   ·exact q_F fun h2=>absurd (h2.used gc hs1).2.2.2.2.2.1 ‹_›
   ·exact q_F fun h2=>absurd (h2.used gc hs1).2.2.2.2.2.2.1 ‹_›
   ·exact q_F fun h2=>absurd (h2.used gc hs1).2.2.2.2.2.2.2 (by omega)
   ·exact q_F fun h2=>absurd ‹bornB _ _ _› (h2.nborn gc hs1)
   ·exact r_nx (n+1) ⟨rfl,hv.next gc (.inr (.inr ⟨hs1,‹_›,‹_›,‹_›,‹_›,‹_›,‹_›,by omega⟩)) (fun _=>‹_›) (fun s=>by omega)⟩ (he:=by rw[movedB_same gc (by omega)];exact Pm.ent pmt)
  ·repeat' (first
    |refine a_n ?_
    |(refine k_V ?_;refine v_rv ?_)
    |refine s_r ?_
    |refine b_r ?_
    |refine r_rt ?_)
   exact q_F fun h2=>by
    rcases h2.each n _ gc with h|h|h
    ·exact hs0 h.1
    ·exact hs2 h.1
    ·exact hs1 h.1
 ·obtain⟨rfl,hv⟩:=hv
  repeat' (first
   |refine a_n ?_
   |(refine k_V ?_;refine v_rv ?_))
  exact q_T (R2p.all.1 (by rw[hl];exact hv))
end Go.Proofs.YtpleoapljeffiaaDoor.E
set_option maxHeartbeats 4000000
namespace Go.Proofs.YtpleoapljeffiaaDoor.E
open Go
open Classical
def OK4(H:Heap)(i:Nat)(c:Cell):Prop:=(Doomed H i→¬Root c)∧∀(k:Nat) p,c.pairs[k]?=some p→Formed H p.key∧Formed H p.val∧(¬Doomed H i→LeadsWell H p.key (¬Mended H i k)∧LeadsWell H p.val (¬Mended H i k))
theorem leadsWell_b{H:Heap}{w:Word}{b:Bool}{p:Prop}(h:b=true↔p):LeadsWell H w (b=true)↔LeadsWell H w p:=by unfold LeadsWell;rw[h]
theorem rule4_q{m:Mem}{a:Nat}{x:HX}(h:Has m (hp a x)):Qt Tryd.prog 21 [ptr a] m (.bool (decide (R4 x.H))):=by
 have hb:=h.lens
 have hl:=x.len
 refine qt_of (fnA_of (fun h=>fn21 (by simp) h) ?_)
 repeat' (first
  |(refine k_L ?_;first|refine a_p rfl ?_|(refine k_l ?_;refine g_l rfl ?_))
  |refine a_n ?_
  |(refine k_V ?_;first|refine v_seq ?_|refine v_reg ?_)
  |refine s_n ?_)
 refine g_range x.regs.length (fun _:Unit=>[(0,.v (ptr a)),(13,.v (.slice x.rd.a x.regs.length x.rd.cap))]) (fun _=>[ro m]) (fun i _=>∀(j:Nat) w,j<i→x.regs[j]?=some w→Formed x.H w∧LeadsWell x.H w False) () (fun j c hj=>by omega) (fun i _ hi hv=>?_) (fun _ hr=>?_)
 ·obtain⟨w,gw⟩:∃w,x.regs[i]?=some w:=⟨_,List.getElem?_eq_getElem hi⟩
  repeat' (first
   |(refine k_L ?_;first|refine a_p rfl ?_|(refine k_g ?_;first|refine a_gy rfl rfl ?_|refine a_gn rfl rfl ?_|(refine a_gnd rfl (fun hb=>?_) (fun hb=>?_)<;>try(exfalso;omega)))|(refine k_i ?_;refine g_i rfl rfl ?_)|(refine k_ls ?_;refine g_ls rfl ?_)|(refine k_st ?_;refine g_sw rfl rfl rfl rfl (Nat.le_of_ble_eq_true rfl) ?_)|(refine k_al ?_;refine a_al ?_)|(refine k_c ?_;first|refine a_cq rfl (fun m hm=>formed_g h hm (w:=w)) ?_|refine a_cq rfl (fun m hm=>leadsWell_g h ‹_› hm (w:=w)) ?_))
   |refine a_n ?_
   |(refine k_V ?_;first|refine v_rv ?_|refine v_seq ?_|refine v_reg ?_|refine v_skip ?_|refine v_ct rfl ?_|(refine v_cnd rfl (fun hb=>?_) (fun hb=>?_)<;>try(exfalso;omega)))
   |refine s_r ?_
   |refine r_rt ?_
   |refine sk_zero ?_
   |refine sk_succ ?_
   |refine wk_nil ?_
   |refine wk_cons ?_)
  ·exact q_F fun h4=>absurd ((h4.regs w (List.mem_of_getElem? gw)).1) ‹_›
  ·exact q_F fun h4=>absurd ((leadsWell_b (b:=false) (p:=False) (by simp)).2 (h4.regs w (List.mem_of_getElem? gw)).2) ‹_›
  ·refine r_nx () (fun j v hj hq=>?_)
   by_cases e:j=i
   ·subst e;rw[gw]at hq;cases hq;exact⟨‹_›,(leadsWell_b (b:=false) (p:=False) (by simp)).1 ‹_›⟩
   ·exact hv j v (by omega) hq
 repeat' (first
  |(refine k_L ?_;first|refine a_p rfl ?_|(refine k_l ?_;refine g_l rfl ?_))
  |refine a_n ?_
  |(refine k_V ?_;first|refine v_seq ?_|refine v_reg ?_)
  |refine s_n ?_)
 refine g_range x.xs.length (fun _:Unit=>[(0,.v (ptr a)),(33,.v (.slice x.cd.a x.xs.length x.cd.cap))]) (fun _=>[ro m]) (fun i _=>∀(j:Nat) c,j<i→x.H.cells[j]?=some c→OK4 x.H j c) () (fun j c hj=>by omega) (fun i _ hi hv=>?_) (fun _ hv=>?_)
 ·obtain⟨y,gy,gc⟩:=HX.at hi
  have hbp:y.c.pairs.length≤140737488355328:=by obtain⟨b,l,s⟩:=h;exact(kn_t (kn_t (kn_h (kb_cp gy))):Kn (hp a x) _).out b s
  refine v_seq ?_
  repeat' (first
   |(refine k_L ?_;first|refine a_p rfl ?_|(refine k_i ?_;refine g_i rfl rfl ?_)|(refine k_ls ?_;refine g_ls rfl ?_)|(refine k_st ?_;refine g_sw rfl rfl rfl rfl (Nat.le_of_ble_eq_true rfl) ?_)|(refine k_al ?_;refine a_al ?_))
   |refine a_n ?_
   |(refine k_V ?_;refine v_reg ?_)
   |refine s_n ?_
   |refine sk_zero ?_
   |refine sk_succ ?_
   |refine wk_nil ?_
   |refine wk_cons ?_)
  refine g_cut (fun _:Unit=>[(0,.v (ptr a)),(5,.v (.int .i64 i)),(6,.box (csw y)),(33,.v (.slice x.cd.a x.xs.length x.cd.cap)),(34,.v (.int .i64 x.xs.length)),(35,.v (.int .i64 i))]) (fun _=>[ro m]) (fun _=>Doomed x.H i→¬Root y.c) ?_ (fun _ hdr=>?_)
  ·repeat' (first
    |(refine k_L ?_;first|refine a_p rfl ?_|(refine k_g ?_;first|refine a_gy rfl rfl ?_|refine a_gn rfl rfl ?_|(refine a_gd rfl (fun hb=>?_) (fun hb=>?_)<;>try(exfalso;omega)))|(refine k_c ?_;first|refine a_cq rfl (fun m hm=>doomed_g h (by omega) (by omega) hm (i:=i)) ?_|refine a_cq rfl (fun m hm=>root_q (y:=y)) ?_))
    |refine a_n ?_
    |(refine k_V ?_;first|refine v_rv ?_|refine v_seq ?_|refine v_reg ?_|refine v_skip ?_|refine v_cf rfl ?_|(refine v_cd rfl (fun hb=>?_) (fun hb=>?_)<;>try(exfalso;omega)))
    |refine s_n ?_
    |refine s_r ?_
    |refine r_rt ?_)
   ·exact q_F fun h4=>absurd ‹Root y.c› (h4.roots i _ gc ‹_›)
   all_goals refine j_i () (fun r1=>?_)
   all_goals first|assumption|exact absurd r1 ‹_›
  repeat' (first
   |(refine k_L ?_;refine a_p rfl ?_)
   |refine a_n ?_
   |(refine k_V ?_;first|refine v_seq ?_|refine v_reg ?_)
   |refine s_n ?_)
  refine g_range y.c.pairs.length (fun _:Unit=>[(0,.v (ptr a)),(5,.v (.int .i64 i)),(33,.v (.slice x.cd.a x.xs.length x.cd.cap)),(34,.v (.int .i64 x.xs.length)),(35,.v (.int .i64 i)),(48,.v (.slice y.d.a y.c.pairs.length y.d.cap))]) (fun _=>[ro m]) (fun k _=>∀(j:Nat) p,j<k→y.c.pairs[j]?=some p→Formed x.H p.key∧Formed x.H p.val∧(¬Doomed x.H i→LeadsWell x.H p.key (¬Mended x.H i j)∧LeadsWell x.H p.val (¬Mended x.H i j))) () (fun j c hj=>by omega) (fun k _ hk hv=>?_) (fun _ hw=>?_)
  ·obtain⟨p,gp⟩:∃p,y.c.pairs[k]?=some p:=⟨_,List.getElem?_eq_getElem (by omega)⟩
   have nx:Formed x.H p.key∧Formed x.H p.val∧(¬Doomed x.H i→LeadsWell x.H p.key (¬Mended x.H i k)∧LeadsWell x.H p.val (¬Mended x.H i k))→∀(j:Nat) q,j<k+1→y.c.pairs[j]?=some q→Formed x.H q.key∧Formed x.H q.val∧(¬Doomed x.H i→LeadsWell x.H q.key (¬Mended x.H i j)∧LeadsWell x.H q.val (¬Mended x.H i j)):=by
    intro hp j q hj hq
    by_cases e:j=k
    ·subst e;rw[gp]at hq;cases hq;exact hp
    ·exact hv j q (by omega) hq
   have lw:=fun w=>leadsWell_b (H:=x.H) (w:=w) (b:= !decide (Mended x.H i k)) (p:=¬Mended x.H i k) (by simp)
   repeat' (first
    |(refine k_L ?_;first|refine a_p rfl ?_|(refine k_g ?_;first|refine a_gy rfl rfl ?_|refine a_gn rfl rfl ?_|(refine a_gnd rfl (fun hb=>?_) (fun hb=>?_)<;>try(exfalso;omega)))|(refine k_i ?_;refine g_i rfl rfl ?_)|(refine k_ls ?_;refine g_ls rfl ?_)|(refine k_st ?_;refine g_sw rfl rfl rfl rfl (Nat.le_of_ble_eq_true rfl) ?_)|(refine k_al ?_;refine a_al ?_)|(refine k_c ?_;first|refine a_cq rfl (fun m hm=>formed_g h hm (w:=p.key)) ?_|refine a_cq rfl (fun m hm=>formed_g h hm (w:=p.val)) ?_|refine a_cq rfl (fun m hm=>doomed_g h (by omega) (by omega) hm (i:=i)) ?_|refine a_cq rfl (fun m hm=>mended_g h hm (i:=i) (k:=k)) ?_|refine a_cq rfl (fun m hm=>leadsWell_g h ‹_› hm (w:=p.key)) ?_|refine a_cq rfl (fun m hm=>leadsWell_g h ‹_› hm (w:=p.val)) ?_))
    |refine a_n ?_
    |(refine k_V ?_;first|refine v_rv ?_|refine v_seq ?_|refine v_reg ?_|refine v_exit ?_|refine v_skip ?_|refine v_ct rfl ?_|(refine v_cd rfl (fun hb=>?_) (fun hb=>?_)<;>try(exfalso;omega))|(refine v_cnd rfl (fun hb=>?_) (fun hb=>?_)<;>try(exfalso;omega)))
    |refine s_r ?_
    |refine s_e ?_
    |refine r_rt ?_
    |refine sk_zero ?_
    |refine sk_succ ?_
    |refine wk_nil ?_
    |refine wk_cons ?_)
   ·exact q_F fun h4=>‹¬Formed x.H p.key› (h4.pairs i _ gc k p gp).1
   ·exact q_F fun h4=>‹¬Formed x.H p.val› (h4.pairs i _ gc k p gp).2.1
   ·exact r_ct () (nx ⟨‹_›,‹_›,fun hd=>absurd ‹Doomed x.H i› hd⟩)
   ·exact q_F fun h4=>absurd ((lw p.key).2 ((h4.pairs i _ gc k p gp).2.2 ‹_›).1) ‹_›
   ·exact q_F fun h4=>absurd ((lw p.val).2 ((h4.pairs i _ gc k p gp).2.2 ‹_›).2) ‹_›
   ·exact r_nx () (nx ⟨‹_›,‹_›,fun _=>⟨(lw p.key).1 ‹_›,(lw p.val).1 ‹_›⟩⟩)
  ·repeat' (first
    |(refine k_L ?_;first|(refine k_ad ?_;refine g_ad rfl rfl ?_)|(refine k_su ?_;refine g_su rfl rfl ?_)|(refine k_ml ?_;refine g_ml rfl rfl ?_)|refine a_p rfl ?_|(refine k_g ?_;first|refine a_gy rfl rfl ?_|refine a_gn rfl rfl ?_|refine a_gu rfl ?_|(refine a_gd rfl (fun hb=>?_) (fun hb=>?_)<;>try(exfalso;omega))|(refine a_ge rfl (fun hb=>?_) (fun hb=>?_)<;>try(exfalso;omega))|(refine a_gne rfl (fun hb=>?_) (fun hb=>?_)<;>try(exfalso;omega))|(refine a_gnd rfl (fun hb=>?_) (fun hb=>?_)<;>try(exfalso;omega)))|(refine k_l ?_;refine g_l rfl ?_)|(refine k_i ?_;refine g_i rfl rfl ?_)|(refine k_ls ?_;refine g_ls rfl ?_)|(refine k_st ?_;first|refine g_st rfl rfl rfl rfl ?_|refine g_sw rfl rfl rfl rfl (Nat.le_of_ble_eq_true rfl) ?_)|(refine k_al ?_;refine a_al ?_)|(refine k_bx ?_;refine a_bx rfl rfl ?_)|(refine k_bl ?_;refine a_bl rfl ?_)|(refine k_p ?_;first|(refine a_pd rfl (fun hb=>?_) (fun hb=>?_)<;>try(exfalso;omega))|(refine a_pe rfl (fun hb=>?_) (fun hb=>?_)<;>try(exfalso;omega))|(refine a_pne rfl (fun hb=>?_) (fun hb=>?_)<;>try(exfalso;omega))|(refine a_pnd rfl (fun hb=>?_) (fun hb=>?_)<;>try(exfalso;omega))))
    |refine a_n ?_
    |(refine k_V ?_;first|refine v_rv ?_|refine v_seq ?_|refine v_reg ?_|refine v_dreg ?_|refine v_zreg ?_|refine v_bs ?_|refine v_br ?_|refine v_bd ?_|refine v_bc ?_|refine v_bk ?_|refine v_bb ?_|refine v_ret ?_|refine v_exit ?_|refine v_skip ?_|refine v_ct rfl ?_|refine v_cf rfl ?_|(refine v_cd rfl (fun hb=>?_) (fun hb=>?_)<;>try(exfalso;omega))|(refine v_ce rfl (fun hb=>?_) (fun hb=>?_)<;>try(exfalso;omega))|(refine v_cn rfl (fun hb=>?_) (fun hb=>?_)<;>try(exfalso;omega))|(refine v_cnd rfl (fun hb=>?_) (fun hb=>?_)<;>try(exfalso;omega)))
    |refine s_n ?_
    |refine s_r ?_
    |refine s_e ?_
    |refine b_n ?_
    |refine b_r ?_
    |refine b_e ?_
    |refine b_o rfl ?_
    |refine r_rt ?_
    |refine r_bk rfl ?_
    |refine r_ex rfl rfl ?_
    |refine sk_zero ?_
    |refine sk_succ ?_
    |refine wk_nil ?_
    |refine wk_cons ?_)
   refine r_nx () (fun j c hj hc=>?_)
   by_cases e:j=i
   ·subst e;rw[gc]at hc;cases hc
    exact⟨hdr,fun k p gp=>hw k p (List.getElem?_eq_some_iff.1 gp).1 gp⟩
   ·exact hv j c (by omega) hc
 ·repeat' (first
   |refine a_n ?_
   |(refine k_V ?_;refine v_rv ?_))
  refine q_T ⟨fun w hw=>?_,fun i c hc=>(hv i c (by have:=(List.getElem?_eq_some_iff.1 hc).1;omega) hc).1,fun i c hc=>(hv i c (by have:=(List.getElem?_eq_some_iff.1 hc).1;omega) hc).2⟩
  obtain⟨i,hi⟩:=List.getElem?_of_mem hw
  exact hr i w (List.getElem?_eq_some_iff.1 hi).1 hi
theorem rule8_q{m:Mem}{a:Nat}{x:HX}(h:Has m (hp a x))(h1:R1 x.H):Qt Tryd.prog 25 [ptr a] m (.bool (decide (R8 x.H))):=by
 have hb:=h.lens
 have hh:0≤x.hdr.hand∧x.hdr.hand≤x.xs.length:=by have:=h1.hand;rw[x.len]at this;exact this
 have hnc:x.hdr.nc=x.xs.length:=rfl
 refine qt_of (fnA_of (fun h=>fn25 (by simp) h) ?_)
 repeat' (first
  |(refine k_L ?_;first|refine a_p rfl ?_|(refine k_l ?_;refine g_l rfl ?_))
  |refine a_n ?_
  |(refine k_V ?_;first|refine v_seq ?_|refine v_reg ?_)
  |refine s_n ?_)
 refine v_blk ?_
 refine v_loop (fun i:Int=>[(0,.v (ptr a)),(3,.v (.int .i64 i))]) (fun _=>[ro m]) (fun k i=>k=(x.xs.length-i).toNat∧x.hdr.hand≤i∧i≤x.xs.length∧(x.hdr.phase=6→∀j:Nat,x.hdr.hand≤j→j<i→∀c,x.H.cells[j]?=some c→c.state≠2))
  ⟨_,x.hdr.hand,⟨rfl,rfl,trivial⟩,Ent.refl _,rfl,Int.le_refl _,hh.2,fun _ j _ _=>by omega⟩ ?_
 rintro k i ⟨rfl,h2,h3,h4⟩
 by_cases hi:i<x.xs.length
 ·obtain⟨y,gy,gc⟩:=HX.at (x:=x) (i:=i.toNat) (by omega)
  repeat' (first
   |(refine k_L ?_;first|(refine k_ad ?_;refine g_ad rfl rfl ?_)|refine a_p rfl ?_|(refine k_g ?_;first|refine a_gy rfl rfl ?_|refine a_gn rfl rfl ?_|(refine a_gd rfl (fun hb=>?_) (fun hb=>?_)<;>try(exfalso;omega)))|(refine k_l ?_;refine g_l rfl ?_)|(refine k_i ?_;refine g_i rfl rfl ?_))
   |refine a_n ?_
   |(refine k_V ?_;first|refine v_rv ?_|refine v_seq ?_|refine v_reg ?_|refine v_bs ?_|refine v_exit ?_|refine v_skip ?_|refine v_cf rfl ?_|(refine v_cd rfl (fun hb=>?_) (fun hb=>?_)<;>try(exfalso;omega)))
   |refine s_n ?_
   |refine s_r ?_
   |refine b_r ?_)
  ·exact q_F fun h8=>h8 ‹_› i.toNat _ gc (by show x.hdr.hand≤_;omega) ‹_›
  ·refine⟨_,i+1,?_,⟨rfl,rfl,trivial⟩,Ent.refl _,rfl,by omega,by omega,fun h6 j a1 a2 c hc=>?_⟩
   ·omega
   ·by_cases e:(j:Int)<i
    ·exact h4 h6 j a1 e c hc
    ·have:j=i.toNat:=by omega
     subst this
     rw[gc]at hc;cases hc;assumption
  all_goals exact q_T fun h6=>absurd h6 ‹_›
 ·repeat' (first
   |(refine k_L ?_;first|refine a_p rfl ?_|(refine k_g ?_;first|refine a_gy rfl rfl ?_|refine a_gn rfl rfl ?_|(refine a_gd rfl (fun hb=>?_) (fun hb=>?_)<;>try(exfalso;omega)))|(refine k_l ?_;refine g_l rfl ?_))
   |refine a_n ?_
   |(refine k_V ?_;first|refine v_rv ?_|refine v_seq ?_|refine v_reg ?_|refine v_exit ?_|refine v_cf rfl ?_|(refine v_cd rfl (fun hb=>?_) (fun hb=>?_)<;>try(exfalso;omega))))
  ·exact q_T fun h6 j c hc hj=>h4 h6 j hj (by have:=(List.getElem?_eq_some_iff.1 hc).1;have:=x.len;omega) c hc
  all_goals exact q_T fun h6=>absurd h6 ‹_›
def OK7(H:Heap)(i:Nat)(c:Cell):Prop:=(Root c→c.color=0→H.phase≠2∧H.hand≤i)∧∀(k:Nat) p,c.pairs[k]?=some p→(k:Int)<scanned H i c→¬White H p.key∧¬White H p.val
theorem rule7_q{m:Mem}{a:Nat}{x:HX}(h:Has m (hp a x))(h1:R1 x.H)(h4:R4 x.H)(h6:R6 x.H):Qt Tryd.prog 24 [ptr a] m (.bool (decide (R7 x.H))):=by
 have hb:=h.lens
 have hl:=x.len
 refine qt_of (fnA_of (fun h=>fn24 (by simp) h) ?_)
 repeat' (first
  |(refine k_L ?_;first|refine a_p rfl ?_|(refine k_l ?_;refine g_l rfl ?_)|(refine k_c ?_;refine a_cq rfl (fun m hm=>marking_g h hm) ?_))
  |refine a_n ?_
  |(refine k_V ?_;first|refine v_rv ?_|refine v_seq ?_|refine v_reg ?_|refine v_skip ?_|(refine v_cnd rfl (fun hb=>?_) (fun hb=>?_)<;>try(exfalso;omega)))
  |refine s_n ?_
  |refine s_r ?_)
 ·exact q_T fun hk=>absurd hk ‹_›
 rename_i hmk
 have g0:(∃g,x.gray[(0:Int).toNat]?=some g∧x.H.gray.head?=some g)∨(x.hdr.ng:Int)=0∧x.H.gray.head?=none:=by
  show(∃g,x.gray[(0:Int).toNat]?=some g∧x.gray.head?=some g)∨(x.gray.length:Int)=0∧x.gray.head?=none
  cases x.gray with
  |nil=>exact .inr ⟨rfl,rfl⟩
  |cons g r=>exact .inl ⟨g,rfl,rfl⟩
 have hng:x.hdr.ng=x.gray.length:=rfl
 refine g_range x.xs.length (fun _:Unit=>[(0,.v (ptr a)),(14,.v (.slice x.cd.a x.xs.length x.cd.cap))]) (fun _=>[ro m]) (fun i _=>∀(j:Nat) c,j<i→x.H.cells[j]?=some c→OK7 x.H j c) () (fun j c hj=>by omega) (fun i _ hi hv=>?_) (fun _ hv=>?_)
 ·obtain⟨y,gy,gc⟩:=HX.at hi
  have hcp:=(kn_t (kn_t (kn_h (kc_cp gy))):Kn (hp a x) _)
  have hcap:y.c.pairs.length≤y.d.cap:=by obtain⟨b,l,s⟩:=h;exact hcp.out b s
  have hsc:(if y.c.color=2 then(y.c.pairs.length:Int)else if x.hdr.phase=2∧x.H.gray.head?=some (i:Int)then x.hdr.sub else 0)=scanned x.H i y.c:=rfl
  refine v_seq ?_
  repeat' (first
   |(refine k_L ?_;first|refine a_p rfl ?_|(refine k_i ?_;refine g_i rfl rfl ?_)|(refine k_ls ?_;refine g_ls rfl ?_)|(refine k_st ?_;refine g_sw rfl rfl rfl rfl (Nat.le_of_ble_eq_true rfl) ?_)|(refine k_al ?_;refine a_al ?_))
   |refine a_n ?_
   |(refine k_V ?_;refine v_reg ?_)
   |refine s_n ?_
   |refine sk_zero ?_
   |refine sk_succ ?_
   |refine wk_nil ?_
   |refine wk_cons ?_)
  refine g_cut (fun _:Unit=>[(0,.v (ptr a)),(3,.v (.int .i64 i)),(4,.box (csw y)),(14,.v (.slice x.cd.a x.xs.length x.cd.cap)),(15,.v (.int .i64 x.xs.length)),(16,.v (.int .i64 i))]) (fun _=>[ro m]) (fun _=>Root y.c→y.c.color=0→x.hdr.phase≠2∧x.hdr.hand≤i) ?_ (fun _ hr=>?_)
  ·repeat' (first
    |(refine k_L ?_;first|refine a_p rfl ?_|(refine k_g ?_;first|refine a_gy rfl rfl ?_|refine a_gn rfl rfl ?_|refine a_gu rfl ?_|(refine a_gd rfl (fun hb=>?_) (fun hb=>?_)<;>try(exfalso;omega)))|(refine k_l ?_;refine g_l rfl ?_)|(refine k_c ?_;refine a_cq rfl (fun m hm=>root_q (y:=y)) ?_))
    |refine a_n ?_
    |(refine k_V ?_;first|refine v_rv ?_|refine v_seq ?_|refine v_reg ?_|refine v_skip ?_|refine v_ct rfl ?_|refine v_cf rfl ?_|(refine v_cd rfl (fun hb=>?_) (fun hb=>?_)<;>try(exfalso;omega)))
    |refine s_n ?_
    |refine s_r ?_
    |refine r_rt ?_)
   ·exact q_F fun h7=>absurd ‹x.hdr.phase=2› ((h7 ‹_› i _ gc).1 ‹_› ‹_›).1
   ·exact q_F fun h7=>absurd ((h7 ‹_› i _ gc).1 ‹_› ‹_›).2 (by show ¬x.hdr.hand≤_;omega)
   all_goals refine j_i () (fun r1 r2=>?_)
   ·exact⟨‹_›,by omega⟩
   all_goals first|exact absurd r1 ‹_›|exact absurd r2 ‹_›
  refine v_seq ?_
  repeat' (first
   |(refine k_L ?_;refine a_p rfl ?_)
   |refine a_n ?_
   |(refine k_V ?_;refine v_reg ?_)
   |refine s_n ?_)
  refine g_cut (fun n:Int=>[(0,.v (ptr a)),(3,.v (.int .i64 i)),(4,.box (csw y)),(5,.v (.int .i64 n)),(14,.v (.slice x.cd.a x.xs.length x.cd.cap)),(15,.v (.int .i64 x.xs.length)),(16,.v (.int .i64 i))]) (fun _=>[ro m]) (fun n=>n=scanned x.H i y.c) ?_ (fun n hn=>?_)
  ·rw[←hsc]
   rcases g0 with⟨g,g0,g1⟩|⟨g0,g1⟩
   ·have hlg:=(List.getElem?_eq_some_iff.1 g0).1
    have hlg2:(0:Int)<x.hdr.ng:=by rw[hng];have:(0:Int).toNat=0:=rfl;omega
    repeat' (first
     |(refine k_L ?_;first|refine a_p rfl ?_|(refine k_g ?_;first|refine a_gy rfl rfl ?_|refine a_gn rfl rfl ?_|(refine a_gd rfl (fun hb=>?_) (fun hb=>?_)<;>try(exfalso;omega)))|(refine k_l ?_;refine g_l rfl ?_)|(refine k_i ?_;refine g_i rfl rfl ?_))
     |refine a_n ?_
     |(refine k_V ?_;first|refine v_seq ?_|refine v_reg ?_|refine v_skip ?_|refine v_cf rfl ?_|(refine v_cd rfl (fun hb=>?_) (fun hb=>?_)<;>try(exfalso;omega)))
     |refine s_n ?_)
    all_goals refine j_i _ ?_
    all_goals simp_all
   ·repeat' (first
     |(refine k_L ?_;first|refine a_p rfl ?_|(refine k_g ?_;first|refine a_gy rfl rfl ?_|refine a_gn rfl rfl ?_|(refine a_gd rfl (fun hb=>?_) (fun hb=>?_)<;>try(exfalso;omega)))|(refine k_l ?_;refine g_l rfl ?_))
     |refine a_n ?_
     |(refine k_V ?_;first|refine v_seq ?_|refine v_reg ?_|refine v_skip ?_|refine v_cf rfl ?_|(refine v_cd rfl (fun hb=>?_) (fun hb=>?_)<;>try(exfalso;omega)))
     |refine s_n ?_)
    all_goals refine j_i _ ?_
    all_goals simp_all
  have hbp:y.c.pairs.length≤140737488355328:=by obtain⟨b,l,s⟩:=h;exact(kn_t (kn_t (kn_h (kb_cp gy))):Kn (hp a x) _).out b s
  have hn0:0≤n∧n≤y.c.pairs.length:=by
   rw[hn,←hsc]
   split
   ·omega
   ·split
    ·rename_i hg
     have hg2:=h6
     unfold R6 at hg2
     have hp:x.H.phase=2:=hg.1
     rw[if_neg (by rw[hp];decide),if_pos hp]at hg2
     cases hgr:x.H.gray with
     |nil=>rw[hgr]at hg;simp at hg
     |cons g r=>
      rw[hgr]at hg hg2
      have hgi:g=(i:Int):=by simpa using hg.2
      have h3:=hg2.2
      simp only[hgi]at h3
      have hgc:x.H.getC (i:Int)=y.c:=by unfold Heap.getC;rw[List.getD_eq_getElem?_getD];show(x.H.cells[i]?).getD _=_;rw[gc];rfl
      rw[hgc]at h3
      exact⟨h1.sub.1,h3⟩
    ·omega
  repeat' (first
   |(refine k_L ?_;first|refine a_p rfl ?_|(refine g_tk (e:=y.d) rfl rfl ?_))
   |refine a_n ?_
   |(refine k_V ?_;first|refine v_seq ?_|refine v_reg ?_)
   |refine s_n ?_)
  refine g_range n.toNat (fun _:Unit=>[(0,.v (ptr a)),(14,.v (.slice x.cd.a x.xs.length x.cd.cap)),(15,.v (.int .i64 x.xs.length)),(16,.v (.int .i64 i)),(79,.v (.slice y.d.a n.toNat y.d.cap))]) (fun _=>[ro m]) (fun k _=>∀(j:Nat) p,j<k→y.c.pairs[j]?=some p→¬White x.H p.key∧¬White x.H p.val) () (fun j c hj=>by omega) (fun k _ hk hv=>?_) (fun _ hw=>?_)
  ·obtain⟨p,gp⟩:∃p,y.c.pairs[k]?=some p:=⟨_,List.getElem?_eq_getElem (by omega)⟩
   obtain⟨f1,f2,_⟩:=h4.pairs i _ gc k p gp
   repeat' (first
    |(refine k_L ?_;first|refine a_p rfl ?_|(refine k_g ?_;first|refine a_gy rfl rfl ?_|refine a_gn rfl rfl ?_|(refine a_gd rfl (fun hb=>?_) (fun hb=>?_)<;>try(exfalso;omega)))|(refine k_i ?_;refine g_i rfl rfl ?_)|(refine k_ls ?_;refine g_ls rfl ?_)|(refine k_st ?_;refine g_sw rfl rfl rfl rfl (Nat.le_of_ble_eq_true rfl) ?_)|(refine k_al ?_;refine a_al ?_)|(refine k_c ?_;first|refine a_cq rfl (fun m hm=>white_g h f1 hm) ?_|refine a_cq rfl (fun m hm=>white_g h f2 hm) ?_))
    |refine a_n ?_
    |(refine k_V ?_;first|refine v_rv ?_|refine v_seq ?_|refine v_reg ?_|refine v_skip ?_|refine v_ct rfl ?_|(refine v_cd rfl (fun hb=>?_) (fun hb=>?_)<;>try(exfalso;omega)))
    |refine s_r ?_
    |refine r_rt ?_
    |refine sk_zero ?_
    |refine sk_succ ?_
    |refine wk_nil ?_
    |refine wk_cons ?_)
   ·exact q_F fun h7=>((h7 ‹_› i _ gc).2 k p gp (by rw[←hn];omega)).1 ‹_›
   ·exact q_F fun h7=>((h7 ‹_› i _ gc).2 k p gp (by rw[←hn];omega)).2 ‹_›
   ·refine r_nx () (fun j q hj hq=>?_)
    by_cases e:j=k
    ·subst e;rw[gp]at hq;cases hq;exact⟨‹_›,‹_›⟩
    ·exact hv j q (by omega) hq
  ·repeat' (first
    |(refine k_L ?_;first|(refine k_ad ?_;refine g_ad rfl rfl ?_)|(refine k_su ?_;refine g_su rfl rfl ?_)|(refine k_ml ?_;refine g_ml rfl rfl ?_)|refine a_p rfl ?_|(refine k_g ?_;first|refine a_gy rfl rfl ?_|refine a_gn rfl rfl ?_|refine a_gu rfl ?_|(refine a_gd rfl (fun hb=>?_) (fun hb=>?_)<;>try(exfalso;omega))|(refine a_ge rfl (fun hb=>?_) (fun hb=>?_)<;>try(exfalso;omega))|(refine a_gne rfl (fun hb=>?_) (fun hb=>?_)<;>try(exfalso;omega))|(refine a_gnd rfl (fun hb=>?_) (fun hb=>?_)<;>try(exfalso;omega)))|(refine k_l ?_;refine g_l rfl ?_)|(refine k_i ?_;refine g_i rfl rfl ?_)|(refine k_ls ?_;refine g_ls rfl ?_)|(refine k_st ?_;first|refine g_st rfl rfl rfl rfl ?_|refine g_sw rfl rfl rfl rfl (Nat.le_of_ble_eq_true rfl) ?_)|(refine k_al ?_;refine a_al ?_)|(refine k_bx ?_;refine a_bx rfl rfl ?_)|(refine k_bl ?_;refine a_bl rfl ?_)|(refine k_p ?_;first|(refine a_pd rfl (fun hb=>?_) (fun hb=>?_)<;>try(exfalso;omega))|(refine a_pe rfl (fun hb=>?_) (fun hb=>?_)<;>try(exfalso;omega))|(refine a_pne rfl (fun hb=>?_) (fun hb=>?_)<;>try(exfalso;omega))|(refine a_pnd rfl (fun hb=>?_) (fun hb=>?_)<;>try(exfalso;omega))))
    |refine a_n ?_
    |(refine k_V ?_;first|refine v_rv ?_|refine v_seq ?_|refine v_reg ?_|refine v_dreg ?_|refine v_zreg ?_|refine v_bs ?_|refine v_br ?_|refine v_bd ?_|refine v_bc ?_|refine v_bk ?_|refine v_bb ?_|refine v_ret ?_|refine v_exit ?_|refine v_skip ?_|refine v_ct rfl ?_|refine v_cf rfl ?_|(refine v_cd rfl (fun hb=>?_) (fun hb=>?_)<;>try(exfalso;omega))|(refine v_ce rfl (fun hb=>?_) (fun hb=>?_)<;>try(exfalso;omega))|(refine v_cn rfl (fun hb=>?_) (fun hb=>?_)<;>try(exfalso;omega))|(refine v_cnd rfl (fun hb=>?_) (fun hb=>?_)<;>try(exfalso;omega)))
    |refine s_n ?_
    |refine s_r ?_
    |refine s_e ?_
    |refine b_n ?_
    |refine b_r ?_
    |refine b_e ?_
    |refine b_o rfl ?_
    |refine r_rt ?_
    |refine r_bk rfl ?_
    |refine r_ex rfl rfl ?_
    |refine sk_zero ?_
    |refine sk_succ ?_
    |refine wk_nil ?_
    |refine wk_cons ?_)
   refine r_nx () (fun j c hj hc=>?_)
   by_cases e:j=i
   ·subst e;rw[gc]at hc;cases hc
    exact⟨hr,fun k p gp hk=>hw k p (by rw[←hn]at hk;omega) gp⟩
   ·exact hv j c (by omega) hc
 ·repeat' (first
   |refine a_n ?_
   |(refine k_V ?_;refine v_rv ?_))
  exact q_T fun hm i c hc=>hv i c (by have:=(List.getElem?_eq_some_iff.1 hc).1;omega) hc
theorem fnOk_of{P : Program}{g : FuncId}{fn : Func}(h : P.funcs[g]? = some fn)(hb : fn.body.isSome = true)(hn : (fn.name != "runtime.NumGoroutine") = true): fnOk P g = true := by
 unfold fnOk;rw[h];simp only[hb,hn];rfl
theorem a_nwh{P:Program}{S:St}{As:List Asr}{post:St→List Asr→Prop}{r:List I}{d:Option Nat}{t:Operand}(x:HX)(hx:ev S t=some x.v)(hp:∀b,LA P r post (put S d (.v (ptr b))) (hdA b x.hdr::As)):LA P (⟨d,none,.box false t⟩::r) post S As:=
 a_nw (vs:=x.row) hx rfl hp
def nRule(H:Heap):Nat→Prop
 |0=>R1 H
 |1=>R2 H
 |2=>R3 H
 |3=>R4 H
 |4=>R5 H
 |5=>R6 H
 |6=>R7 H
 |_=>R8 H
theorem okH_at{H:Heap}{n:Nat}(hn:n<8)(h:∀j,j<n→nRule H j)(hf:¬nRule H n):okH H=(n:Int)+1:=by
 have g:∀j,j<8→j<n→nRule H j:=fun j _=>h j
 have g0:=g 0;have g1:=g 1;have g2:=g 2;have g3:=g 3;have g4:=g 4;have g5:=g 5;have g6:=g 6
 simp only[nRule]at g0 g1 g2 g3 g4 g5 g6
 unfold okH
 rcases(by omega:n=0∨n=1∨n=2∨n=3∨n=4∨n=5∨n=6∨n=7)with rfl|rfl|rfl|rfl|rfl|rfl|rfl|rfl<;>simp only[nRule]at hf<;>simp_all
theorem okH_all{H:Heap}(h:∀j,j<8→nRule H j):okH H=0:=
 (okH_sound H).2 ⟨h 0 (by omega),h 1 (by omega),h 2 (by omega),h 3 (by omega),h 4 (by omega),h 5 (by omega),h 6 (by omega),h 7 (by omega)⟩
def fnV(b g:Nat):Value:=.func (.func g) #[ptr b] #[]
def rlS(b:Nat):List Value:=[fnV b 18,fnV b 19,fnV b 20,fnV b 21,fnV b 22,fnV b 23,fnV b 24,fnV b 25]
theorem r_v1{d:D}{xs:List Value}{i:Nat}{v:Value}(hi:xs[i]?=some v):RdA (slA 1 (fun v:Value=>[v]) d xs) d.b (d.o+i*1) v:=rd_sl (j:=0) (fun _=>rfl) hi rfl
theorem implHeapOk_q{m:Mem}{x:HX}(h:Has m x.body):Qt Tryd.prog 13 [x.v] m (.int .i64 (okH x.H)):=by
 refine qt_of (fnA_of (fun h=>fn13 (by simp) h) ?_)
 refine v_seq (v_reg (a_nwh x rfl (fun b=>?_)))
 have hs:∀m',star [hdA b x.hdr,ro m] m'→Has m' (hp b x):=fun m' s=>has_new h s pmt (F:=[])
 repeat' (first
  |(refine k_L ?_;first|refine a_p rfl ?_|(refine a_ns (f:=fun v:Value=>[v]) (rlS b) (fun _=>rfl) rfl rfl rfl (by omega) (fun e he=>?_)))
  |refine a_n ?_
  |(refine k_V ?_;first|refine v_seq ?_|refine v_reg ?_)
  |refine s_n ?_)
 refine g_range 8 (fun _:Unit=>[(13,.v (.slice e.a 8 8))]) (fun _=>[slA 1 (fun v:Value=>[v]) e (rlS b),hdA b x.hdr,ro m]) (fun i _=>∀j,j<i→nRule x.H j) () (fun j hj=>by omega) (fun i _ hi hv=>?_) (fun _ hv=>?_)
 ·have hH:∀m',star [slA 1 (fun v:Value=>[v]) e (rlS b),hdA b x.hdr,ro m] m'→Has m' (hp b x):=fun m' ⟨m1,m2,d,e1,_,s⟩=>by subst e1;exact(hs m2 s).le (le_r d)
  have nx:nRule x.H i→∀j,j<i+1→nRule x.H j:=fun hr j hj=>by
   by_cases e:j=i
   ·subst e;exact hr
   ·exact hv j (by omega)
  rcases(by omega:i=0∨i=1∨i=2∨i=3∨i=4∨i=5∨i=6∨i=7)with rfl|rfl|rfl|rfl|rfl|rfl|rfl|rfl
  ·have gk:(rlS b)[0]?=some (fnV b 18):=rfl
   repeat' (first
    |(refine k_L ?_;first|(refine k_ad ?_;refine g_ad rfl rfl ?_)|refine a_p rfl ?_|(refine k_l ?_;refine a_l rfl (by exact rd_h (r_v1 (i:=0) rfl)) ?_)|(refine k_i ?_;refine g_i rfl rfl ?_)|(refine a_cvq rfl (fnOk_of Tryd.func18 rfl rfl) rfl (fun m hm=>rule1_q (hH m hm)) ?_))
    |refine a_n ?_
    |(refine k_V ?_;first|refine v_seq ?_|refine v_reg ?_|refine v_ret ?_|refine v_skip ?_|(refine v_cnd rfl (fun hb=>?_) (fun hb=>?_)<;>try(exfalso;omega)))
    |refine s_r ?_
    |refine r_rt ?_)
   ·exact fa_q (by simp) (fun _ _=>rfl) (by rw[okH_at (n:=0) (by omega) hv ‹_›])
   ·exact r_nx () (nx ‹_›)
  ·have gk:(rlS b)[1]?=some (fnV b 19):=rfl
   repeat' (first
    |(refine k_L ?_;first|(refine k_ad ?_;refine g_ad rfl rfl ?_)|refine a_p rfl ?_|(refine k_l ?_;refine a_l rfl (by exact rd_h (r_v1 (i:=1) rfl)) ?_)|(refine k_i ?_;refine g_i rfl rfl ?_)|(refine a_cvq rfl (fnOk_of Tryd.func19 rfl rfl) rfl (fun m hm=>rule2_q (hH m hm)) ?_))
    |refine a_n ?_
    |(refine k_V ?_;first|refine v_seq ?_|refine v_reg ?_|refine v_ret ?_|refine v_skip ?_|(refine v_cnd rfl (fun hb=>?_) (fun hb=>?_)<;>try(exfalso;omega)))
    |refine s_r ?_
    |refine r_rt ?_)
   ·exact fa_q (by simp) (fun _ _=>rfl) (by rw[okH_at (n:=1) (by omega) hv ‹_›])
   ·exact r_nx () (nx ‹_›)
  ·have gk:(rlS b)[2]?=some (fnV b 20):=rfl
   repeat' (first
    |(refine k_L ?_;first|(refine k_ad ?_;refine g_ad rfl rfl ?_)|refine a_p rfl ?_|(refine k_l ?_;refine a_l rfl (by exact rd_h (r_v1 (i:=2) rfl)) ?_)|(refine k_i ?_;refine g_i rfl rfl ?_)|(refine a_cvq rfl (fnOk_of Tryd.func20 rfl rfl) rfl (fun m hm=>rule3_q (hH m hm) (hv 0 (by omega)) (hv 1 (by omega))) ?_))
    |refine a_n ?_
    |(refine k_V ?_;first|refine v_seq ?_|refine v_reg ?_|refine v_ret ?_|refine v_skip ?_|(refine v_cnd rfl (fun hb=>?_) (fun hb=>?_)<;>try(exfalso;omega)))
    |refine s_r ?_
    |refine r_rt ?_)
   ·exact fa_q (by simp) (fun _ _=>rfl) (by rw[okH_at (n:=2) (by omega) hv ‹_›])
   ·exact r_nx () (nx ‹_›)
  ·have gk:(rlS b)[3]?=some (fnV b 21):=rfl
   repeat' (first
    |(refine k_L ?_;first|(refine k_ad ?_;refine g_ad rfl rfl ?_)|refine a_p rfl ?_|(refine k_l ?_;refine a_l rfl (by exact rd_h (r_v1 (i:=3) rfl)) ?_)|(refine k_i ?_;refine g_i rfl rfl ?_)|(refine a_cvq rfl (fnOk_of Tryd.func21 rfl rfl) rfl (fun m hm=>rule4_q (hH m hm)) ?_))
    |refine a_n ?_
    |(refine k_V ?_;first|refine v_seq ?_|refine v_reg ?_|refine v_ret ?_|refine v_skip ?_|(refine v_cnd rfl (fun hb=>?_) (fun hb=>?_)<;>try(exfalso;omega)))
    |refine s_r ?_
    |refine r_rt ?_)
   ·exact fa_q (by simp) (fun _ _=>rfl) (by rw[okH_at (n:=3) (by omega) hv ‹_›])
   ·exact r_nx () (nx ‹_›)
  ·have gk:(rlS b)[4]?=some (fnV b 22):=rfl
   repeat' (first
    |(refine k_L ?_;first|(refine k_ad ?_;refine g_ad rfl rfl ?_)|refine a_p rfl ?_|(refine k_l ?_;refine a_l rfl (by exact rd_h (r_v1 (i:=4) rfl)) ?_)|(refine k_i ?_;refine g_i rfl rfl ?_)|(refine a_cvq rfl (fnOk_of Tryd.func22 rfl rfl) rfl (fun m hm=>rule5_q (hH m hm)) ?_))
    |refine a_n ?_
    |(refine k_V ?_;first|refine v_seq ?_|refine v_reg ?_|refine v_ret ?_|refine v_skip ?_|(refine v_cnd rfl (fun hb=>?_) (fun hb=>?_)<;>try(exfalso;omega)))
    |refine s_r ?_
    |refine r_rt ?_)
   ·exact fa_q (by simp) (fun _ _=>rfl) (by rw[okH_at (n:=4) (by omega) hv ‹_›])
   ·exact r_nx () (nx ‹_›)
  ·have gk:(rlS b)[5]?=some (fnV b 23):=rfl
   repeat' (first
    |(refine k_L ?_;first|(refine k_ad ?_;refine g_ad rfl rfl ?_)|refine a_p rfl ?_|(refine k_l ?_;refine a_l rfl (by exact rd_h (r_v1 (i:=5) rfl)) ?_)|(refine k_i ?_;refine g_i rfl rfl ?_)|(refine a_cvq rfl (fnOk_of Tryd.func23 rfl rfl) rfl (fun m hm=>rule6_q (hH m hm) (hv 0 (by omega)) (hv 4 (by omega))) ?_))
    |refine a_n ?_
    |(refine k_V ?_;first|refine v_seq ?_|refine v_reg ?_|refine v_ret ?_|refine v_skip ?_|(refine v_cnd rfl (fun hb=>?_) (fun hb=>?_)<;>try(exfalso;omega)))
    |refine s_r ?_
    |refine r_rt ?_)
   ·exact fa_q (by simp) (fun _ _=>rfl) (by rw[okH_at (n:=5) (by omega) hv ‹_›])
   ·exact r_nx () (nx ‹_›)
  ·have gk:(rlS b)[6]?=some (fnV b 24):=rfl
   repeat' (first
    |(refine k_L ?_;first|(refine k_ad ?_;refine g_ad rfl rfl ?_)|refine a_p rfl ?_|(refine k_l ?_;refine a_l rfl (by exact rd_h (r_v1 (i:=6) rfl)) ?_)|(refine k_i ?_;refine g_i rfl rfl ?_)|(refine a_cvq rfl (fnOk_of Tryd.func24 rfl rfl) rfl (fun m hm=>rule7_q (hH m hm) (hv 0 (by omega)) (hv 3 (by omega)) (hv 5 (by omega))) ?_))
    |refine a_n ?_
    |(refine k_V ?_;first|refine v_seq ?_|refine v_reg ?_|refine v_ret ?_|refine v_skip ?_|(refine v_cnd rfl (fun hb=>?_) (fun hb=>?_)<;>try(exfalso;omega)))
    |refine s_r ?_
    |refine r_rt ?_)
   ·exact fa_q (by simp) (fun _ _=>rfl) (by rw[okH_at (n:=6) (by omega) hv ‹_›])
   ·exact r_nx () (nx ‹_›)
  ·have gk:(rlS b)[7]?=some (fnV b 25):=rfl
   repeat' (first
    |(refine k_L ?_;first|(refine k_ad ?_;refine g_ad rfl rfl ?_)|refine a_p rfl ?_|(refine k_l ?_;refine a_l rfl (by exact rd_h (r_v1 (i:=7) rfl)) ?_)|(refine k_i ?_;refine g_i rfl rfl ?_)|(refine a_cvq rfl (fnOk_of Tryd.func25 rfl rfl) rfl (fun m hm=>rule8_q (hH m hm) (hv 0 (by omega))) ?_))
    |refine a_n ?_
    |(refine k_V ?_;first|refine v_seq ?_|refine v_reg ?_|refine v_ret ?_|refine v_skip ?_|(refine v_cnd rfl (fun hb=>?_) (fun hb=>?_)<;>try(exfalso;omega)))
    |refine s_r ?_
    |refine r_rt ?_)
   ·exact fa_q (by simp) (fun _ _=>rfl) (by rw[okH_at (n:=7) (by omega) hv ‹_›])
   ·exact r_nx () (nx ‹_›)
 ·repeat' (first
   |refine a_n ?_
   |(refine k_V ?_;refine v_rv ?_))
  exact fa_q (by simp) (fun _ _=>rfl) (by rw[okH_all hv])
end Go.Proofs.YtpleoapljeffiaaDoor.E
set_option maxHeartbeats 8000000
namespace Go.Proofs.YtpleoapljeffiaaDoor.E
open Go
open Classical
def cnt(i:Int):List Int→Nat
 |[]=>0
 |g::r=>(if g=i then 1 else 0)+cnt i r
end Go.Proofs.YtpleoapljeffiaaDoor.E
set_option maxHeartbeats 4000000
namespace Go.Proofs.YtpleoapljeffiaaDoor.E
open Go
open Classical
theorem qt_e{P:Program}{f:FuncId}{args:List Value}{m:Mem}{r r':Value}(h:Qt P f args m r)(e:r=r'):Qt P f args m r':=e▸h
noncomputable def ndG(H:Heap):Nat→Int
 |0=> -1
 |i+1=>if(H.getC i).last=2∧(ndG H i<0∨(H.getC i).born<(H.getC (ndG H i)).born)then(i:Int)else ndG H i
theorem ndG_lt(H:Heap):∀i,-1≤ndG H i∧ndG H i<i
 |0=>by simp[ndG]
 |i+1=>by
  have:=ndG_lt H i
  unfold ndG
  split<;>omega
theorem getC_nat{H:Heap}{i:Nat}{c:Cell}(h:H.cells[i]?=some c):H.getC (i:Int)=c:=by
 unfold Heap.getC
 simp[h]
theorem last2{H:Heap}(h:R2 H){i:Nat}{c:Cell}(hc:H.cells[i]?=some c)(hl:c.last=2):c.state=1:=by
 rcases h.each i c hc with h|h|h
 ·have:=h.2.1.2.2.1;omega
 ·have:=h.2.1.2.2.1;omega
 ·exact h.1
def Heap.tgt(H:Heap)(w:Word):Option Nat:=if(H.lead w).kind=2 then some (H.lead w).at_.toNat else none
inductive Reached (H:Heap):Nat→Prop
 |reg {w:Word} {j:Nat}:w∈H.regs→H.tgt w=some j→Reached H j
 |root {i:Nat} {c:Cell}:H.cells[i]?=some c→Root c→Reached H i
 |pair {i j:Nat} {c:Cell} {p:Pair} {w:Word}:Reached H i→H.cells[i]?=some c→p∈c.pairs→(w=p.key∨w=p.val)→H.tgt w=some j→Reached H j
theorem lead_kind{H:Heap}{w:Word}:(H.lead w).kind=2↔w.kind=2:=by
 unfold Heap.lead
 split
 ·rename_i h;simp[h.1]
 ·rfl
theorem lead_at{H:Heap}(h:R2 H){w:Word}(hf:Formed H w)(hk:w.kind=2):0≤(H.lead w).at_∧(H.lead w).at_<H.cells.length:=by
 have hat:=hf.at hk
 unfold Heap.lead
 split
 ·rename_i hc
  obtain⟨c,hcc⟩:∃c,H.cells[w.at_.toNat]?=some c:=⟨_,List.getElem?_eq_getElem (by omega)⟩
  have hg:H.getC w.at_=c:=by unfold Heap.getC;simp[hcc]
  have hcc':=hcc
  rcases h.each _ c hcc with h1|h1|h1
  ·rw[hg]at hc;have:=h1.1;omega
  ·rw[hg]
   have:=h1.2.2.2.1
   simp only at this⊢
   omega
  ·rw[hg]at hc;have:=h1.1;omega
 ·exact hat
theorem tgt_lt{H:Heap}(h:R2 H){w:Word}(hf:Formed H w){j:Nat}(ht:H.tgt w=some j):j<H.cells.length∧(H.lead w).kind=2∧(H.lead w).at_=j:=by
 unfold Heap.tgt at ht
 split at ht
 ·rename_i hk
  simp only[Option.some.injEq]at ht
  have:=lead_at h hf (lead_kind.1 hk)
  exact⟨by omega,hk,by omega⟩
 ·cases ht
def mkW(H:Heap)(s:List Bool×List Int)(w:Word):List Bool×List Int:=
 match H.tgt w with
 |some j=>if s.1[j]?=some false then(s.1.set j true,s.2++[(j:Int)])else s
 |none=>s
def Hit(H:Heap)(seen:List Bool)(w:Word):Prop:=∀j,H.tgt w=some j→seen[j]?=some true
structure Mk (H:Heap) (S:Nat→Prop) (s:List Bool×List Int):Prop where
 len:s.1.length=H.cells.length
 snd:∀j,s.1[j]?=some true→S j
 stk:∀g,g∈s.2→∃j:Nat,g=j∧s.1[j]?=some true
 cnt:s.2.length+s.1.count false≤H.cells.length
structure Grow (s t:List Bool×List Int):Prop where
 mono:∀j:Nat,s.1[j]?=some true→t.1[j]?=some true
 new:∀j:Nat,t.1[j]?=some true→s.1[j]?=some true∨(j:Int)∈t.2
 old:∀g,g∈s.2→g∈t.2
 msr:2*t.1.count false+t.2.length≤2*s.1.count false+s.2.length
 pre:s.2<+:t.2
theorem Grow.refl(s:List Bool×List Int):Grow s s:=⟨fun _ h=>h,fun _ h=>.inl h,fun _ h=>h,Nat.le_refl _,List.prefix_refl _⟩
theorem Grow.trans{s t u:List Bool×List Int}(h:Grow s t)(k:Grow t u):Grow s u:=
 ⟨fun j hj=>k.mono j (h.mono j hj),fun j hj=>(k.new j hj).elim (fun h'=>(h.new j h').elim .inl fun h''=>.inr (k.old _ h'')) .inr,fun g hg=>k.old g (h.old g hg),Nat.le_trans k.msr h.msr,h.pre.trans k.pre⟩
theorem Hit.grow{H:Heap}{s t:List Bool×List Int}{w:Word}(h:Hit H s.1 w)(g:Grow s t):Hit H t.1 w:=fun j hj=>g.mono j (h j hj)
theorem count_set{l:List Bool}{j:Nat}(h:l[j]?=some false):(l.set j true).count false+1=l.count false:=by
 induction l generalizing j with
 |nil=>simp at h
 |cons b r ih=>
  cases j with
  |zero=>simp only[List.getElem?_cons_zero,Option.some.injEq]at h;subst h;simp
  |succ j=>
   simp only[List.getElem?_cons_succ]at h
   have:=ih h
   simp only[List.set_cons_succ,List.count_cons]
   omega
theorem mkW_ok{H:Heap}{S:Nat→Prop}{s:List Bool×List Int}{w:Word}(h:Mk H S s)(hw:∀j,H.tgt w=some j→j<H.cells.length∧S j):Mk H S (mkW H s w)∧Grow s (mkW H s w)∧Hit H (mkW H s w).1 w:=by
 unfold mkW
 cases ht:H.tgt w with
 |none=>exact⟨h,Grow.refl s,fun j hj=>by rw[ht]at hj;cases hj⟩
 |some j=>
  obtain⟨hj,hS⟩:=hw j ht
  simp only
  by_cases hs:s.1[j]?=some false
  ·rw[if_pos hs]
   have hc:=count_set hs
   have hjl:j<s.1.length:=by rw[h.len];exact hj
   have hset:∀k:Nat,(s.1.set j true)[k]?=some true↔k=j∨s.1[k]?=some true:=by
    intro k
    rw[List.getElem?_set]
    by_cases e:j=k
    ·subst e;simp[hjl]
    ·simp only[e,if_false]
     constructor
     ·exact .inr
     ·rintro(h|h)
      ·exact absurd h.symm e
      ·exact h
   refine⟨⟨by simpa using h.len,fun k hk=>?_,fun g hg=>?_,?_⟩,⟨fun k hk=>(hset k).2 (.inr hk),fun k hk=>?_,fun g hg=>List.mem_append_left _ hg,?_,List.prefix_append _ _⟩,fun k hk=>?_⟩
   ·rcases(hset k).1 hk with rfl|hk
    ·exact hS
    ·exact h.snd k hk
   ·rcases List.mem_append.1 hg with hg|hg
    ·obtain⟨k,e,hk⟩:=h.stk g hg
     exact⟨k,e,(hset k).2 (.inr hk)⟩
    ·exact⟨j,by simpa using hg,(hset j).2 (.inl rfl)⟩
   ·have:=h.cnt
    simp only[List.length_append,List.length_singleton]
    omega
   ·rcases(hset k).1 hk with rfl|hk
    ·exact .inr (List.mem_append_right _ (by simp))
    ·exact .inl hk
   ·simp only[List.length_append,List.length_singleton]
    omega
   ·rw[ht]at hk
    cases hk
    exact(hset j).2 (.inl rfl)
  ·rw[if_neg hs]
   refine⟨h,Grow.refl s,fun k hk=>?_⟩
   rw[ht]at hk
   cases hk
   have hjl:j<s.1.length:=by rw[h.len];exact hj
   rw[List.getElem?_eq_getElem hjl]at hs⊢
   cases hb:s.1[j]with
   |true=>rfl
   |false=>rw[hb]at hs;exact absurd rfl hs
noncomputable def reachL(H:Heap):List Bool:=(List.range H.cells.length).map fun i=>decide (Reached H i)
def Cell.zero:Cell:=⟨0,0,0,0,0,0,0,[]⟩
def Cell.col(c:Cell)(k:Int):Cell:={c with color:=k}
theorem set_gt{α:Type}{l:List α}{i j:Nat}{a c:α}(h:(l.set i a)[j]?=some c):(j=i∧c=a∧i<l.length)∨(j≠i∧l[j]?=some c):=by
 rw[List.getElem?_set]at h
 split at h
 ·rename_i e
  subst e
  split at h
  ·rename_i hl;cases h;exact .inl ⟨rfl,rfl,hl⟩
  ·cases h
 ·rename_i e;exact .inr ⟨fun e'=>e e'.symm,h⟩
def getL(cs:List Cell)(j:Int):Cell:=cs.getD j.toNat Cell.zero
theorem getC_L(H:Heap)(j:Int):H.getC j=getL H.cells j:=rfl
theorem getL_at{cs:List Cell}{i:Nat}{c:Cell}{j:Int}(h:cs[i]?=some c)(e:j.toNat=i):getL cs j=c:=by
 unfold getL;rw[e,List.getD_eq_getElem?_getD,h];rfl
theorem getL_set{cs:List Cell}{i:Nat}{a:Cell}{j:Int}(hi:i<cs.length):getL (cs.set i a) j=if j.toNat=i then a else getL cs j:=by
 unfold getL
 rw[List.getD_eq_getElem?_getD,List.getD_eq_getElem?_getD,List.getElem?_set]
 by_cases e:i=j.toNat
 ·rw[if_pos e,if_pos hi,if_pos e.symm];rfl
 ·rw[if_neg e,if_neg (fun h=>e h.symm)]
theorem getL_some{cs:List Cell}{j:Int}(h0:0≤j)(h1:j<cs.length):cs[j.toNat]?=some (getL cs j):=by
 unfold getL
 rw[List.getD_eq_getElem?_getD,List.getElem?_eq_getElem (by omega)];rfl
theorem units_set:∀{cs:List Cell} {i:Nat} {c d:Cell},cs[i]?=some c→unitsN (cs.set i d)=unitsN cs-c.units+d.units
 |[],i,c,d,h=>by simp at h
 |a::r,0,c,d,h=>by
  simp only[List.getElem?_cons_zero,Option.some.injEq]at h
  subst h
  simp only[unitsN,List.set_cons_zero,List.map_cons,List.sum_cons];omega
 |a::r,i+1,c,d,h=>by
  simp only[List.getElem?_cons_succ]at h
  have:=units_set (d:=d) h
  simp only[unitsN,List.set_cons_succ,List.map_cons,List.sum_cons]at this⊢;omega
theorem nodup_len:∀(n:Nat) (l:List Int),l.Nodup→(∀g,g∈l→0≤g∧g<n)→l.length≤n
 |0,l,_,h=>by
  cases l with
  |nil=>simp
  |cons a r=>have:=h a (by simp);omega
 |n+1,l,hn,h=>by
  by_cases hm:(n:Int)∈l
  ·have h1:=nodup_len n (l.erase n) (hn.erase _) (fun g hg=>by
    have h2:=h g (List.mem_of_mem_erase hg)
    have h3:=(hn.mem_erase_iff.1 hg).1
    omega)
   rw[List.length_erase_of_mem hm]at h1
   omega
  ·have:=nodup_len n l hn (fun g hg=>by
    have h2:=h g hg
    have:g≠n:=fun e=>hm (by rw[←e];exact hg)
    omega)
   omega
theorem R2.bare{H:Heap}(h:R2 H){i:Nat}{c:Cell}(hc:H.cells[i]?=some c)(hu:c.state≠1):Bare c:=by
 rcases h.each i c hc with h|h|h
 ·exact h.2.1
 ·exact h.2.1
 ·exact absurd h.1 hu
theorem R2.state{H:Heap}(h:R2 H){i:Nat}{c:Cell}(hc:H.cells[i]?=some c)(hp:H.phase<4):c.state=0∨c.state=1:=by
 rcases h.each i c hc with h|h|h
 ·exact .inl h.1
 ·have:=h.2.2.1;omega
 ·exact .inr h.1
theorem orig{l:List Cell}{i j:Nat}{c d e:Cell}(hc:l[i]?=some c)(hd:(l.set i e)[j]?=some d):∃d0,l[j]?=some d0∧(j=i∧d0=c∧d=e∨j≠i∧d=d0):=by
 rcases set_gt hd with⟨rfl,rfl,_⟩|⟨h,hd⟩
 ·exact⟨c,hc,.inl ⟨rfl,rfl,rfl⟩⟩
 ·exact⟨d,hd,.inr ⟨h,rfl⟩⟩
theorem col_state{H H':Heap}{i:Nat}{c:Cell}{k:Int}(hc:H.cells[i]?=some c)(e1:H'.cells=H.cells.set i (c.col k))(j:Int):(H'.getC j).state=(H.getC j).state∧(H'.getC j).pairs=(H.getC j).pairs∧(H'.getC j).to=(H.getC j).to:=by
 have hlt:=(List.getElem?_eq_some_iff.1 hc).1
 rw[getC_L,getC_L,e1,getL_set hlt]
 by_cases e:j.toNat=i
 ·rw[if_pos e,getL_at hc e];exact⟨rfl,rfl,rfl⟩
 ·rw[if_neg e];exact⟨rfl,rfl,rfl⟩
theorem col_r2{H H':Heap}{i:Nat}{c:Cell}{k:Int}(h:R2 H)(hc:H.cells[i]?=some c)(hu:c.state=1)(hk:0≤k∧k≤2)(e1:H'.cells=H.cells.set i (c.col k))(e2:H'.born=H.born)(e3:H'.phase=H.phase):R2 H':=by
 have gs:=fun j=>(col_state hc e1 j).1
 refine⟨fun j d hd=>?_,fun j l d e hd he hjl h1 h2=>?_,fun j l d e hd he hjl h1 h2=>?_⟩
 ·rw[e1]at hd
  obtain⟨d0,hd0,⟨rfl,rfl,rfl⟩|⟨_,rfl⟩⟩:=orig hc hd
  ·obtain⟨_,a2,a3,a4,a5,a6,a7⟩:=h.used hd0 hu
   exact .inr (.inr ⟨hu,a2,a3,a4,by rw[e2];exact a5,hk,a7⟩)
  ·rcases h.each j d hd0 with h1|h1|h1
   ·exact .inl h1
   ·obtain⟨a1,a2,a3,a4,a5,a6⟩:=h1
    exact .inr (.inl ⟨a1,a2,by rw[e3];exact a3,a4,by rw[gs];exact a5,fun hp k h0 h1=>by rw[gs];exact a6 (by rw[←e3];exact hp) k h0 h1⟩)
   ·obtain⟨a1,a2,a3,a4,a5,a6⟩:=h1
    exact .inr (.inr ⟨a1,a2,a3,a4,by rw[e2];exact a5,a6⟩)
 ·rw[e1]at hd he
  obtain⟨d0,hd0,x⟩:=orig hc hd
  obtain⟨f0,he0,y⟩:=orig hc he
  have b1:d.born=d0.born∧d.state=d0.state:=by rcases x with⟨_,rfl,rfl⟩|⟨_,rfl⟩<;>exact⟨rfl,rfl⟩
  have b2:e.born=f0.born∧e.state=f0.state:=by rcases y with⟨_,rfl,rfl⟩|⟨_,rfl⟩<;>exact⟨rfl,rfl⟩
  rw[b1.1,b2.1]
  exact h.born j l d0 f0 hd0 he0 hjl (b1.2▸h1) (b2.2▸h2)
 ·rw[e1]at hd he
  obtain⟨d0,hd0,x⟩:=orig hc hd
  obtain⟨f0,he0,y⟩:=orig hc he
  have b1:d.to=d0.to∧d.state=d0.state:=by rcases x with⟨_,rfl,rfl⟩|⟨_,rfl⟩<;>exact⟨rfl,rfl⟩
  have b2:e.to=f0.to∧e.state=f0.state:=by rcases y with⟨_,rfl,rfl⟩|⟨_,rfl⟩<;>exact⟨rfl,rfl⟩
  rw[b1.1,b2.1]
  exact h.to j l d0 f0 hd0 he0 hjl (b1.2▸h1) (b2.2▸h2)
theorem col_r3{H H':Heap}{i:Nat}{c:Cell}{k:Int}(h:R3 H)(hc:H.cells[i]?=some c)(e1:H'.cells=H.cells.set i (c.col k))(e2:H'.used=H.used)(e3:H'.room=H.room):R3 H':=by
 unfold R3 at*
 rw[e1,e2,e3,units_set hc]
 have:(c.col k).units=c.units:=rfl
 rw[this];omega
theorem leads_of{H H':Heap}{w:Word}{m m':Prop}(hs:∀j,(H'.getC j).state=(H.getC j).state)(hd:∀j,Doomed H' j→Doomed H j)(hm:m→m')(h:LeadsWell H w m):LeadsWell H' w m':=fun hk=>by
 rw[hs]
 rcases h hk with⟨a,b⟩|⟨a,b⟩
 ·exact .inl ⟨a,fun h=>b (hd _ h)⟩
 ·exact .inr ⟨a,hm b⟩
theorem formed_len{H H':Heap}{w:Word}(hl:H'.cells.length=H.cells.length)(h:Formed H w):Formed H' w:=by unfold Formed at*;rw[hl];exact h
theorem r4_frame{H H':Heap}(h:R4 H)(hl:H'.cells.length=H.cells.length)(hr:H'.regs=H.regs)(hs:∀j,(H'.getC j).state=(H.getC j).state)(hd:∀j,Doomed H' j↔Doomed H j)
 (ho:∀(j:Nat) d,H'.cells[j]?=some d→∃d0,H.cells[j]?=some d0∧d.pairs=d0.pairs∧(Root d→Root d0))
 (hm:∀(j k:Nat) d p,H.cells[j]?=some d→d.pairs[k]?=some p→Mended H' j k→Mended H j k):R4 H':=by
 refine⟨fun w hw=>?_,fun i c hc hdm hrt=>?_,fun i c hc k p hp=>?_⟩
 ·obtain⟨a,b⟩:=h.regs w (by rw[←hr];exact hw)
  exact⟨formed_len hl a,leads_of hs (fun j=>(hd j).1) id b⟩
 ·obtain⟨d0,h0,_,h2⟩:=ho i c hc
  exact h.roots i d0 h0 ((hd i).1 hdm) (h2 hrt)
 ·obtain⟨d0,h0,h1,_⟩:=ho i c hc
  rw[h1]at hp
  obtain⟨a,b,g⟩:=h.pairs i d0 h0 k p hp
  refine⟨formed_len hl a,formed_len hl b,fun hn=>?_⟩
  obtain⟨g1,g2⟩:=g (fun h'=>hn ((hd i).2 h'))
  have hmm:¬Mended H i k→¬Mended H' i k:=fun a b=>a (hm i k d0 p h0 hp b)
  exact⟨leads_of hs (fun j=>(hd j).1) hmm g1,leads_of hs (fun j=>(hd j).1) hmm g2⟩
theorem same_orig{H H':Heap}(e:H'.cells=H.cells):∀(j:Nat) d,H'.cells[j]?=some d→∃d0,H.cells[j]?=some d0∧d.pairs=d0.pairs∧(Root d→Root d0):=fun j d hd=>⟨d,by rw[←e];exact hd,rfl,id⟩
theorem col_orig{H H':Heap}{i:Nat}{c:Cell}{k:Int}(hc:H.cells[i]?=some c)(e:H'.cells=H.cells.set i (c.col k)):∀(j:Nat) d,H'.cells[j]?=some d→∃d0,H.cells[j]?=some d0∧d.pairs=d0.pairs∧(Root d→Root d0):=fun j d hd=>by
 rw[e]at hd
 obtain⟨d0,hd0,⟨rfl,rfl,rfl⟩|⟨_,rfl⟩⟩:=orig hc hd
 ·exact⟨_,hd0,rfl,id⟩
 ·exact⟨d,hd0,rfl,id⟩
theorem not_mend{H:Heap}(hp:H.phase≠4∧H.phase≠5)(i k:Int):Mended H i k:=⟨hp.1,fun h=>absurd h hp.2⟩
theorem not_doom{H:Heap}(hp:H.phase≠3)(i:Int):¬Doomed H i:=fun h=>hp h.1
theorem r6_0{H:Heap}(hp:H.phase=0∨H.phase=4):R6 H↔H.hand=0∧H.sub=0:=by unfold R6;rw[if_pos hp]
theorem r6_2{H:Heap}(hp:H.phase=2):R6 H↔H.hand=0∧(match H.gray with|[]=>H.sub=0|g::_=>H.sub≤(H.getC g).pairs.length):=by unfold R6;rw[if_neg (by omega),if_pos hp];exact Iff.rfl
theorem r6_5{H:Heap}(hp:H.phase=5):R6 H↔(if H.hand<H.cells.length∧(H.getC H.hand).state=1 then H.sub≤(H.getC H.hand).pairs.length else H.sub=0):=by unfold R6;rw[if_neg (by omega),if_neg (by omega),if_pos hp]
theorem r6_e{H:Heap}(hp:H.phase≠0∧H.phase≠4∧H.phase≠2∧H.phase≠5):R6 H↔H.sub=0:=by unfold R6;rw[if_neg (by omega),if_neg (by omega),if_neg (by omega)]
theorem r6_2s{H:Heap}(hp:H.phase=2)(hh:H.hand=0)(hs:H.sub=0):R6 H:=by
 refine(r6_2 hp).2 ⟨hh,?_⟩
 rw[hs]
 cases H.gray with
 |nil=>rfl
 |cons a r=>simp
theorem R7.nil{H:Heap}(hp:¬Marking H):R7 H:=fun h=>absurd h hp
theorem R8.nil{H:Heap}(hp:H.phase≠6):R8 H:=fun h=>absurd h hp
def Heap.gray1(H:Heap)(i:Nat)(c:Cell):Heap:={H with cells:=H.cells.set i (c.col 1),gray:=H.gray++[(i:Int)]}
theorem gray1_sound{H:Heap}{i:Nat}{c:Cell}(h:Sound H)(hm:Marking H)(hc:H.cells[i]?=some c)(hu:c.state=1)(hw:c.color=0):Sound (H.gray1 i c):=by
 have hp:H.phase≠3∧H.phase≠4∧H.phase≠5∧H.phase≠6:=by rcases hm with e|e<;>rw[e]<;>omega
 have hp12:H.phase=1∨H.phase=2:=hm
 have hlt:=(List.getElem?_eq_some_iff.1 hc).1
 have hcs:=fun j=>col_state (H:=H) (H':=H.gray1 i c) (k:=1) hc rfl j
 obtain⟨g1,g2,g3⟩:=h.r5.mark hm
 have hi:(i:Int)∉H.gray:=fun hi=>by
  have:=(g2 _ hi).2.2.2
  rw[getC_nat hc,hw]at this;omega
 have gn:(H.gray++[(i:Int)]).Nodup:=List.nodup_append.2 ⟨g1,by simp,fun a ha b hb=>by simp at hb;subst hb;exact fun e=>hi (by rw[←e];exact ha)⟩
 have gC:∀j:Int,(H.gray1 i c).getC j=if j.toNat=i then c.col 1 else H.getC j:=fun j=>by
  rw[getC_L,getC_L];exact getL_set hlt
 have gm:∀g,g∈H.gray++[(i:Int)]→0≤g∧g<H.cells.length:=fun g hg=>by
  rcases List.mem_append.1 hg with hg|hg
  ·exact⟨(g2 g hg).1,(g2 g hg).2.1⟩
  ·simp at hg;subst hg;omega
 have hl:(H.gray1 i c).cells.length=H.cells.length:=by simp[Heap.gray1]
 have w_of:∀w,White (H.gray1 i c) w→White H w:=fun w hw'=>by
  refine⟨hw'.1,?_⟩
  have:=hw'.2
  rw[gC]at this
  split at this
  ·simp[Cell.col]at this
  ·exact this
 refine⟨?_,col_r2 h.r2 hc hu (by omega) rfl rfl rfl,col_r3 h.r3 hc rfl rfl rfl,?_,⟨fun _=>⟨gn,fun g hg=>?_,fun j d hd hdc=>?_⟩,fun hn=>absurd hm hn⟩,?_,fun _ j d hd=>?_,R8.nil hp.2.2.2⟩
 ·refine{h.r1 with cells:=by rw[hl];exact h.r1.cells,gray:=?_,hand:=by rw[hl];exact h.r1.hand}
  rw[hl];exact nodup_len _ _ gn gm
 ·exact r4_frame h.r4 hl rfl (fun j=>(hcs j).1) (fun j=>⟨fun h=>absurd h.1 hp.1,fun h=>absurd h.1 hp.1⟩) (col_orig hc rfl) (fun _ _ _ _ _ _ _=>not_mend ⟨hp.2.1,hp.2.2.1⟩ _ _)
 ·refine⟨(gm g hg).1,by rw[hl];exact(gm g hg).2,?_⟩
  rw[gC]
  by_cases e:g.toNat=i
  ·rw[if_pos e];exact⟨hu,rfl⟩
  ·rw[if_neg e]
   rcases List.mem_append.1 hg with hg|hg
   ·exact(g2 g hg).2.2
   ·simp at hg;subst hg;simp at e
 ·show(j:Int)∈H.gray++[(i:Int)]
  obtain⟨d0,hd0,⟨rfl,rfl,rfl⟩|⟨_,rfl⟩⟩:=orig hc hd
  ·simp
  ·exact List.mem_append_left _ (g3 j d hd0 hdc)
 ·have h6:=h.r6
  unfold R6 at h6⊢
  show if H.phase=0∨H.phase=4 then _ else if H.phase=2 then _ else if H.phase=5 then _ else _
  by_cases p2:H.phase=2
  ·rw[if_neg (by omega),if_pos p2]at h6⊢
   refine⟨h6.1,?_⟩
   have h7:=h6.2
   show match H.gray++[(i:Int)]with|[]=>H.sub=0|g::_=>H.sub≤((H.gray1 i c).getC g).pairs.length
   cases hg:H.gray with
   |nil=>
    rw[hg]at h7
    simp only[List.nil_append]at h7⊢
    omega
   |cons a r=>
    rw[hg]at h7
    simp only[List.cons_append]at h7⊢
    rw[(hcs a).2.1];exact h7
  ·rw[if_neg (by omega),if_neg p2,if_neg (by omega)]at h6⊢
   exact h6
 ·obtain⟨d0,hd0,x⟩:=orig hc hd
  obtain⟨a,b⟩:=h.r7 hm j d0 hd0
  refine⟨fun hr hcol=>?_,fun k p hk hsc=>?_⟩
  ·rcases x with⟨rfl,rfl,rfl⟩|⟨_,rfl⟩
   ·simp[Cell.col]at hcol
   ·exact a hr hcol
  ·have hpr:d.pairs=d0.pairs:=by rcases x with⟨_,rfl,rfl⟩|⟨_,rfl⟩<;>rfl
   rw[hpr]at hk
   have:(k:Int)<scanned H j d0:=by
    unfold scanned at hsc⊢
    have hph:(H.gray1 i c).phase=H.phase:=rfl
    have hsub:(H.gray1 i c).sub=H.sub:=rfl
    have hhd:(H.gray1 i c).gray.head?=some (j:Int)→H.phase=2→(H.gray.head?=some (j:Int))∨H.sub=0:=by
     intro h1 h2
     have h6:=h.r6
     unfold R6 at h6
     rw[if_neg (by omega),if_pos h2]at h6
     have h1:(H.gray++[(i:Int)]).head?=some (j:Int):=h1
     cases hg:H.gray with
     |nil=>rw[hg]at h6;exact .inr h6.2
     |cons a r=>rw[hg]at h1;left;simpa using h1
    rw[hph,hsub]at hsc
    rcases x with⟨rfl,rfl,rfl⟩|⟨_,rfl⟩
    ·have hcol:¬(d0.col 1).color=2:=by simp[Cell.col]
     rw[if_neg hcol]at hsc
     rw[if_neg (show ¬d0.color=2 by omega)]
     split at hsc
     ·rename_i e
      rcases hhd e.2 e.1 with h'|h'
      ·rw[if_pos ⟨e.1,h'⟩];exact hsc
      ·omega
     ·omega
    ·by_cases e2:d.color=2
     ·rw[if_pos e2]at hsc⊢;exact hsc
     ·rw[if_neg e2]at hsc⊢
      split at hsc
      ·rename_i e
       rcases hhd e.2 e.1 with h'|h'
       ·rw[if_pos ⟨e.1,h'⟩];exact hsc
       ·omega
      ·omega
   obtain⟨b1,b2⟩:=b k p hk this
   exact⟨fun h=>b1 (w_of _ h),fun h=>b2 (w_of _ h)⟩
noncomputable def Heap.shadeH(H:Heap)(i:Nat):Heap:=if Marking H∧(H.getC i).color=0 then H.gray1 i (H.getC i)else H
structure Sh (H K:Heap):Prop where
 sound:Sound H→Sound K
 room:K.room=H.room
 used:K.used=H.used
 born:K.born=H.born
 regs:K.regs=H.regs
 phase:K.phase=H.phase
 hand:K.hand=H.hand
 sub:K.sub=H.sub
 per:K.per=H.per
 start:K.start=H.start
 rounds:K.rounds=H.rounds
 forced:K.forced=H.forced
 len:K.cells.length=H.cells.length
 cell:∀j:Int,(K.getC j).state=(H.getC j).state∧(K.getC j).pairs=(H.getC j).pairs∧(K.getC j).last=(H.getC j).last∧((H.getC j).color≠0→(K.getC j).color=(H.getC j).color)
 gray:H.gray<+:K.gray
theorem Sh.refl(H:Heap):Sh H H:=⟨id,rfl,rfl,rfl,rfl,rfl,rfl,rfl,rfl,rfl,rfl,rfl,rfl,fun _=>⟨rfl,rfl,rfl,fun _=>rfl⟩,List.prefix_refl _⟩
theorem Sh.trans{H K L:Heap}(h:Sh H K)(k:Sh K L):Sh H L:=
 ⟨fun s=>k.sound (h.sound s),k.room.trans h.room,k.used.trans h.used,k.born.trans h.born,k.regs.trans h.regs,k.phase.trans h.phase,k.hand.trans h.hand,k.sub.trans h.sub,k.per.trans h.per,k.start.trans h.start,k.rounds.trans h.rounds,k.forced.trans h.forced,k.len.trans h.len,
  fun j=>⟨(k.cell j).1.trans (h.cell j).1,(k.cell j).2.1.trans (h.cell j).2.1,(k.cell j).2.2.1.trans (h.cell j).2.2.1,fun hc=>by
   have:=(h.cell j).2.2.2 hc
   rw[(k.cell j).2.2.2 (by rw[this];exact hc),this]⟩,h.gray.trans k.gray⟩
theorem shadeH_ok{H:Heap}{i:Nat}(hi:i<H.cells.length)(hu:(H.getC i).state=1):Sh H (H.shadeH i)∧(Marking H→((H.shadeH i).getC i).color≠0):=by
 unfold Heap.shadeH
 have hc:=getL_some (cs:=H.cells) (j:=i) (by omega) (by omega)
 rw[show((i:Int)).toNat=i by omega,←getC_L]at hc
 split
 ·rename_i hm
  refine⟨⟨fun h=>gray1_sound h hm.1 hc hu hm.2,rfl,rfl,rfl,rfl,rfl,rfl,rfl,rfl,rfl,rfl,rfl,by simp[Heap.gray1],fun j=>?_,List.prefix_append _ _⟩,fun _=>?_⟩
  ·have e:(H.gray1 i (H.getC i)).getC j=if j.toNat=i then(H.getC i).col 1 else H.getC j:=by rw[getC_L,getC_L];exact getL_set hi
   rw[e]
   split
   ·rename_i e
    have:H.getC j=H.getC i:=by rw[getC_L,getL_at hc e]
    rw[this]
    exact⟨rfl,rfl,rfl,fun h=>absurd hm.2 h⟩
   ·exact⟨rfl,rfl,rfl,fun _=>rfl⟩
  ·have e:(H.gray1 i (H.getC i)).getC i=if((i:Int)).toNat=i then(H.getC i).col 1 else H.getC i:=by rw[getC_L,getC_L];exact getL_set hi
   rw[e,if_pos (by omega)];simp[Cell.col]
 ·rename_i hm
  exact⟨Sh.refl H,fun h e=>hm ⟨h,e⟩⟩
theorem Sh.white{H K:Heap}(h:Sh H K){w:Word}(hw:¬White H w):¬White K w:=fun h'=>hw ⟨h'.1,by
 have:=h'.2
 by_cases e:(H.getC w.at_).color=0
 ·exact e
 ·rw[(h.cell _).2.2.2 e]at this;exact absurd this e⟩
noncomputable def Heap.shadeW(H:Heap)(w:Word):Heap:=if w.kind=2 then H.shadeH w.at_.toNat else H
theorem shadeW_ok{H:Heap}{w:Word}(hf:Formed H w)(hu:w.kind=2→(H.getC w.at_).state=1):Sh H (H.shadeW w)∧(Marking H→¬White (H.shadeW w) w):=by
 unfold Heap.shadeW
 split
 ·rename_i hk
  have ha:=hf.at hk
  have e:((w.at_.toNat:Nat):Int)=w.at_:=by omega
  obtain⟨a,b⟩:=shadeH_ok (H:=H) (i:=w.at_.toNat) (by omega) (by rw[e];exact hu hk)
  refine⟨a,fun hm hw=>b hm ?_⟩
  rw[e];exact hw.2
 ·rename_i hk
  exact⟨Sh.refl H,fun _ hw=>hk hw.1⟩
end Go.Proofs.YtpleoapljeffiaaDoor.E
