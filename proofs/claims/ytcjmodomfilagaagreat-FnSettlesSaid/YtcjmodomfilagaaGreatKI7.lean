/- A part of the proof. Conditions: none. -/
import Derived.Test.YtcjmodomfilagaaGreatKI6
set_option linter.unusedVariables false
set_option linter.unusedSimpArgs false
set_option maxHeartbeats 4000000
set_option maxRecDepth 100000
namespace Go.Proofs.YtcjmodomfilagaaGreat.E
open Go
open Classical
noncomputable def setM(p:Int→Prop):Int→Option Value:=fun i=>if p i then some (.bool true)else none
theorem setM_get{p:Int→Prop}{j:Int}{ok:Bool}(h:ok=false):(if ok then Value.tuple #[(setM p j).getD (.bool false),.bool (setM p j).isSome]else(setM p j).getD (.bool false))=.bool (decide (p j)):=by
 subst h
 unfold setM
 by_cases hp:p j<;>simp[hp]
theorem setM_set{p q:Int→Prop}{j:Int}(h:∀i,q i↔i=j∨p i):(fun i=>if i=j then some (Value.bool true)else setM p i)=setM q:=by
 funext i
 unfold setM
 by_cases e:i=j
 ·simp[e,(h j).2 (.inl rfl)]
 ·rw[if_neg e]
  by_cases hp:p i
  ·rw[if_pos hp,if_pos ((h i).2 (.inr hp))]
  ·rw[if_neg hp,if_neg (fun hq=>((h i).1 hq).elim e hp)]
theorem setM_none:(fun _=>none:Int→Option Value)=setM (fun _=>False):=by funext i;simp[setM]
theorem rule5_q{m:Mem}{a:Nat}{x:HX}(h:Has m (hp a x)):Qt Tryz.prog 43 [ptr a] m (.bool (decide (R5 x.H))):=by
 have hb:=h.lens
 have hl:=x.len
 refine qt_of (fnA_of (fun h=>fn43 (by simp) h) ?_)
 repeat' (first
  |(refine k_L ?_;first|refine a_p rfl ?_|(refine k_l ?_;refine g_l rfl ?_)|(refine k_c ?_;refine a_cq rfl (fun m hm=>marking_g h hm) ?_))
  |refine a_n ?_
  |(refine k_V ?_;first|refine v_seq ?_|refine v_reg ?_|refine v_skip ?_|(refine v_cd rfl (fun hb=>?_) (fun hb=>?_)<;>try(exfalso;omega)))
  |refine s_n ?_)
 ·have hmk:=hb
  refine a_mm (fun b=>?_)
  rw[setM_none,show(fun _=>False:Int→Prop)=fun g=>g∈x.gray.take 0 from by funext g;simp]
  repeat' (first
   |(refine k_L ?_;first|refine a_p rfl ?_|(refine k_l ?_;refine g_l rfl ?_))
   |refine a_n ?_
   |(refine k_V ?_;first|refine v_seq ?_|refine v_reg ?_)
   |refine s_n ?_)
  refine g_range x.gray.length (fun _:Nat=>[(0,.v (ptr a)),(3,.v (.map (some b))),(16,.v (.slice x.gd.a x.gray.length x.gd.cap))]) (fun i=>[mpA b (setM (fun g=>g∈x.gray.take i)),ro m]) (fun i j=>j=i∧(x.gray.take i).Nodup∧∀g,g∈x.gray.take i→0≤g∧g<x.H.cells.length∧(x.H.getC g).state=1∧(x.H.getC g).color=1) 0 ⟨rfl,by simp,by simp⟩ (fun i j hi hv=>?_) (fun j hv=>?_)
  ·obtain⟨rfl,hnd,hv⟩:=hv
   obtain⟨g,gg⟩:∃g,x.gray[j]?=some g:=⟨_,List.getElem?_eq_getElem hi⟩
   have hgm:=List.mem_of_getElem? gg
   have hnc:(x.hdr.nc:Int)=x.H.cells.length:=by rw[hl];rfl
   have htk:x.gray.take (j+1)=x.gray.take j++[g]:=by rw[List.take_add_one,gg];rfl
   have hnin:x.H.gray.Nodup→g∉x.gray.take j:=by
    intro hn hm
    have:x.gray=x.gray.take j++x.gray.drop j:=(List.take_append_drop _ _).symm
    have hn':(x.gray.take j++x.gray.drop j).Nodup:=by rw[←this];exact hn
    rw[List.nodup_append]at hn'
    refine hn'.2.2 g hm g ?_ rfl
    refine List.mem_of_getElem? (i:=0) ?_
    rw[List.getElem?_drop];simpa using gg
   by_cases hin:0≤g∧g<x.H.cells.length
   ·obtain⟨y,gy,gc⟩:=HX.atI (x:=x) hin.1 (by omega)
    repeat' (first
     |(refine k_L ?_;first|(refine k_su ?_;refine g_su rfl rfl ?_)|refine a_p rfl ?_|(refine k_g ?_;first|refine a_gy rfl rfl ?_|refine a_gn rfl rfl ?_|(refine a_gd rfl (fun hb=>?_) (fun hb=>?_)<;>try(exfalso;omega))|(refine a_gne rfl (fun hb=>?_) (fun hb=>?_)<;>try(exfalso;omega))|(refine a_gnd rfl (fun hb=>?_) (fun hb=>?_)<;>try(exfalso;omega)))|(refine k_l ?_;refine g_l rfl ?_)|(refine k_i ?_;refine g_i rfl rfl ?_)|(refine k_c ?_;refine a_cq rfl (fun m hm=>impl.withinQ) ?_)|(refine a_lk (by(fail_if_success apply pk_bad);(repeat(first|exact pk_h|apply pk_t));fail_if_success focus skip) rfl rfl (setM_get rfl) ?_)|(refine a_mu (by(fail_if_success apply pk_bad);(repeat(first|exact pk_h|apply pk_t));fail_if_success focus skip) rfl rfl rfl ?_;rw[setM_set (q:=fun g=>g∈x.gray.take (j+1)) (fun i=>by rw[htk];simp[or_comm])]))
     |refine a_n ?_
     |(refine k_V ?_;first|refine v_rv ?_|refine v_seq ?_|refine v_reg ?_|refine v_skip ?_|refine v_ct rfl ?_|(refine v_cn rfl (fun hb=>?_) (fun hb=>?_)<;>try(exfalso;omega)))
     |refine s_r ?_
     |refine r_rt ?_)
    ·exact q_F fun h5=>absurd ‹g∈x.gray.take j› (hnin (h5.mark ‹_›).1)
    ·exact q_F fun h5=>absurd (gc▸((h5.mark ‹_›).2.1 g hgm).2.2.1) ‹_›
    ·exact q_F fun h5=>absurd (gc▸((h5.mark ‹_›).2.1 g hgm).2.2.2) ‹_›
    ·refine r_nx (j+1) ⟨rfl,?_,fun g' hg'=>?_⟩
     ·rw[htk]
      exact List.nodup_append.2 ⟨hnd,by simp,fun u hu v hv e=>by simp at hv;subst hv;subst e;exact ‹¬_› hu⟩
     ·rw[htk]at hg'
      rcases List.mem_append.1 hg' with hg'|hg'
      ·exact hv g' hg'
      ·simp at hg';subst hg'
       exact⟨hin.1,hin.2,by rw[gc];assumption,by rw[gc];assumption⟩
   ·repeat' (first
     |(refine k_L ?_;first|(refine k_su ?_;refine g_su rfl rfl ?_)|refine a_p rfl ?_|(refine k_g ?_;first|refine a_gn rfl rfl ?_|(refine a_gnd rfl (fun hb=>?_) (fun hb=>?_)<;>try(exfalso;omega)))|(refine k_l ?_;refine g_l rfl ?_)|(refine k_i ?_;refine g_i rfl rfl ?_)|(refine k_c ?_;refine a_cq rfl (fun m hm=>impl.withinQ) ?_))
     |refine a_n ?_
     |(refine k_V ?_;first|refine v_rv ?_|refine v_seq ?_|refine v_reg ?_|refine v_ct rfl ?_)
     |refine s_r ?_
     |refine r_rt ?_)
    exact q_F fun h5=>hin ⟨((h5.mark ‹_›).2.1 g hgm).1,((h5.mark ‹_›).2.1 g hgm).2.1⟩
  ·obtain⟨rfl,hnd,hv⟩:=hv
   rw[List.take_length]at hnd hv⊢
   repeat' (first
    |(refine k_L ?_;first|refine a_p rfl ?_|(refine k_l ?_;refine g_l rfl ?_))
    |refine a_n ?_
    |(refine k_V ?_;first|refine v_seq ?_|refine v_reg ?_)
    |refine s_n ?_)
   refine g_range x.xs.length (fun _:Unit=>[(3,.v (.map (some b))),(64,.v (.slice x.cd.a x.xs.length x.cd.cap))]) (fun _=>[mpA b (setM (fun g=>g∈x.gray)),ro m]) (fun i _=>∀(j:Nat) c,j<i→x.H.cells[j]?=some c→c.color=1→(j:Int)∈x.gray) () (fun j c hj=>by omega) (fun i _ hi hw=>?_) (fun _ hw=>?_)
   ·obtain⟨y,gy,gc⟩:=HX.at hi
    repeat' (first
     |(refine k_L ?_;first|refine a_p rfl ?_|(refine k_g ?_;first|refine a_gy rfl rfl ?_|refine a_gn rfl rfl ?_|(refine a_gd rfl (fun hb=>?_) (fun hb=>?_)<;>try(exfalso;omega)))|(refine k_i ?_;refine g_i rfl rfl ?_)|(refine k_ls ?_;refine g_ls rfl ?_)|(refine k_st ?_;refine g_sw rfl rfl rfl rfl (Nat.le_of_ble_eq_true rfl) ?_)|(refine k_al ?_;refine a_al ?_)|(refine a_lk (by(fail_if_success apply pk_bad);(repeat(first|exact pk_h|apply pk_t));fail_if_success focus skip) rfl rfl (setM_get rfl) ?_))
     |refine a_n ?_
     |(refine k_V ?_;first|refine v_rv ?_|refine v_seq ?_|refine v_reg ?_|refine v_skip ?_|refine v_cf rfl ?_|(refine v_cnd rfl (fun hb=>?_) (fun hb=>?_)<;>try(exfalso;omega)))
     |refine s_r ?_
     |refine r_rt ?_
     |refine sk_zero ?_
     |refine sk_succ ?_
     |refine wk_nil ?_
     |refine wk_cons ?_)
    ·exact q_F fun h5=>absurd ((h5.mark ‹_›).2.2 i _ gc ‹_›) ‹_›
    all_goals refine r_nx () (fun j c hj hc hk=>?_)
    all_goals (by_cases e:j=i;(subst e;rw[gc]at hc;cases hc;first|assumption|exact absurd hk ‹_›);exact hw j c (by omega) hc hk)
   ·repeat' (first
     |refine a_n ?_
     |(refine k_V ?_;refine v_rv ?_)
     |refine s_r ?_)
    refine q_T ⟨fun _=>⟨hnd,hv,fun i c hc hk=>hw i c (by have:=(List.getElem?_eq_some_iff.1 hc).1;omega) hc hk⟩,fun hn=>absurd hmk hn⟩
 ·have hmk:=hb
  repeat' (first
   |(refine k_L ?_;first|(refine k_ad ?_;refine g_ad rfl rfl ?_)|(refine k_su ?_;refine g_su rfl rfl ?_)|(refine k_ml ?_;refine g_ml rfl rfl ?_)|refine a_p rfl ?_|(refine k_g ?_;first|refine a_gy rfl rfl ?_|refine a_gn rfl rfl ?_|refine a_gu rfl ?_|(refine a_gd rfl (fun hb=>?_) (fun hb=>?_)<;>try(exfalso;omega))|(refine a_ge rfl (fun hb=>?_) (fun hb=>?_)<;>try(exfalso;omega))|(refine a_gne rfl (fun hb=>?_) (fun hb=>?_)<;>try(exfalso;omega))|(refine a_gnd rfl (fun hb=>?_) (fun hb=>?_)<;>try(exfalso;omega)))|(refine k_l ?_;refine g_l rfl ?_)|(refine k_i ?_;refine g_i rfl rfl ?_)|(refine k_ls ?_;refine g_ls rfl ?_)|(refine k_st ?_;first|refine g_st rfl rfl rfl rfl ?_|refine g_sw rfl rfl rfl rfl (Nat.le_of_ble_eq_true rfl) ?_)|(refine k_al ?_;refine a_al ?_)|(refine k_bx ?_;refine a_bx rfl rfl ?_)|(refine k_bl ?_;refine a_bl rfl ?_)|(refine k_p ?_;first|(refine a_pd rfl (fun hb=>?_) (fun hb=>?_)<;>try(exfalso;omega))|(refine a_pe rfl (fun hb=>?_) (fun hb=>?_)<;>try(exfalso;omega))|(refine a_pne rfl (fun hb=>?_) (fun hb=>?_)<;>try(exfalso;omega))|(refine a_pnd rfl (fun hb=>?_) (fun hb=>?_)<;>try(exfalso;omega))))
   |refine a_n ?_
   |(refine k_V ?_;first|refine v_rv ?_|refine v_seq ?_|refine v_reg ?_|refine v_dreg ?_|refine v_zreg ?_|refine v_bs ?_|refine v_br ?_|refine v_bd ?_|refine v_bc ?_|refine v_bk ?_|refine v_bb ?_|refine v_ret ?_|refine v_exit ?_|refine v_skip ?_|refine v_ct rfl ?_|refine v_cf rfl ?_|(refine v_cd rfl (fun hb=>?_) (fun hb=>?_)<;>try(exfalso;omega))|(refine v_ce rfl (fun hb=>?_) (fun hb=>?_)<;>try(exfalso;omega))|(refine v_cn rfl (fun hb=>?_) (fun hb=>?_)<;>try(exfalso;omega))|(refine v_cnd rfl (fun hb=>?_) (fun hb=>?_)<;>try(exfalso;omega)))
   |refine s_n ?_
   |refine s_r ?_
   |refine s_e ?_
   |refine b_n ?_
   |refine b_r ?_
   |refine b_e ?_
   |refine b_o rfl ?_
   |refine r_rt ?_
   |refine r_bk rfl ?_
   |refine r_ex rfl rfl ?_
   |refine sk_zero ?_
   |refine sk_succ ?_
   |refine wk_nil ?_
   |refine wk_cons ?_)
  refine g_range x.xs.length (fun _:Unit=>[(0,.v (ptr a)),(84,.v (.slice x.cd.a x.xs.length x.cd.cap))]) (fun _=>[ro m]) (fun i _=>∀(j:Nat) c,j<i→x.H.cells[j]?=some c→c.color≠1∧(c.color=2→x.H.phase=3∧x.H.hand≤j)) () (fun j c hj=>by omega) (fun i _ hi hw=>?_) (fun _ hw=>?_)
  ·obtain⟨y,gy,gc⟩:=HX.at hi
   repeat' (first
    |(refine k_L ?_;first|refine a_p rfl ?_|(refine k_g ?_;first|refine a_gy rfl rfl ?_|refine a_gn rfl rfl ?_|refine a_gu rfl ?_|(refine a_gd rfl (fun hb=>?_) (fun hb=>?_)<;>try(exfalso;omega))|(refine a_gne rfl (fun hb=>?_) (fun hb=>?_)<;>try(exfalso;omega)))|(refine k_l ?_;refine g_l rfl ?_)|(refine k_i ?_;refine g_i rfl rfl ?_)|(refine k_ls ?_;refine g_ls rfl ?_)|(refine k_st ?_;refine g_sw rfl rfl rfl rfl (Nat.le_of_ble_eq_true rfl) ?_)|(refine k_al ?_;refine a_al ?_))
    |refine a_n ?_
    |(refine k_V ?_;first|refine v_rv ?_|refine v_seq ?_|refine v_reg ?_|refine v_skip ?_|refine v_ct rfl ?_|refine v_cf rfl ?_|(refine v_cd rfl (fun hb=>?_) (fun hb=>?_)<;>try(exfalso;omega)))
    |refine s_r ?_
    |refine r_rt ?_
    |refine sk_zero ?_
    |refine sk_succ ?_
    |refine wk_nil ?_
    |refine wk_cons ?_)
   ·exact q_F fun h5=>absurd ‹y.c.color=1› ((h5.else_ ‹_›).2 i _ gc).1
   ·exact q_F fun h5=>absurd (((h5.else_ ‹_›).2 i _ gc).2 ‹_›).1 ‹_›
   ·exact q_F fun h5=>absurd (((h5.else_ ‹_›).2 i _ gc).2 ‹_›).2 (by show ¬x.hdr.hand≤_;omega)
   all_goals refine r_nx () (fun j c hj hc=>?_)
   all_goals (by_cases e:j=i;(subst e;rw[gc]at hc;cases hc;first|exact⟨‹_›,fun _=>⟨‹_›,by show x.hdr.hand≤_;omega⟩⟩|exact⟨‹_›,fun hk=>absurd hk ‹_›⟩);exact hw j c (by omega) hc)
  ·repeat' (first
    |(refine k_L ?_;first|refine a_p rfl ?_|(refine k_l ?_;refine g_l rfl ?_))
    |refine a_n ?_
    |(refine k_V ?_;first|refine v_seq ?_|refine v_reg ?_|refine v_ret ?_))
   refine q_B (fun _ _=>rfl) ?_
   have hng:x.hdr.ng=x.H.gray.length:=rfl
   constructor
   ·intro he
    have:x.H.gray=[]:=List.eq_nil_of_length_eq_zero (by rw[←hng];simpa using he)
    exact⟨fun hm=>absurd hm hmk,fun _=>⟨this,fun i c hc=>hw i c (by have:=(List.getElem?_eq_some_iff.1 hc).1;omega) hc⟩⟩
   ·intro h5
    have:=(h5.else_ hmk).1
    rw[hng,this];rfl
end Go.Proofs.YtcjmodomfilagaaGreat.E
set_option maxHeartbeats 8000000
namespace Go.Proofs.YtcjmodomfilagaaGreat.E
open Go
open Classical
structure R2p (H:Heap) (n:Nat):Prop where
 each:∀(i:Nat) c,i<n→H.cells[i]?=some c→(c.state=0∧Bare c∧c.to=0)∨MovedOk H i c∨UsedOk H c
 born:∀(i j:Nat) c d,H.cells[i]?=some c→H.cells[j]?=some d→i<j→j<n→c.state=1→d.state=1→c.born≠d.born
 to:∀(i j:Nat) c d,H.cells[i]?=some c→H.cells[j]?=some d→i<j→j<n→c.state=2→d.state=2→c.to≠d.to
def bornB(H:Heap)(n:Nat)(b:Int):Prop:=∃(j:Nat) (c:Cell),j<n∧H.cells[j]?=some c∧c.state=1∧c.born=b
def movedB(H:Heap)(n:Nat)(b:Int):Prop:=∃(j:Nat) (c:Cell),j<n∧H.cells[j]?=some c∧c.state=2∧c.to=b
theorem R2p.zero(H:Heap):R2p H 0:=⟨by omega,by omega,by omega⟩
theorem R2p.all{H:Heap}:R2p H H.cells.length↔R2 H:=
 ⟨fun h=>⟨fun i c hc=>h.each i c (List.getElem?_eq_some_iff.1 hc).1 hc,fun i j c d hc hd hij=>h.born i j c d hc hd hij (List.getElem?_eq_some_iff.1 hd).1,fun i j c d hc hd hij=>h.to i j c d hc hd hij (List.getElem?_eq_some_iff.1 hd).1⟩,
  fun h=>⟨fun i c _=>h.each i c,fun i j c d hc hd hij _=>h.born i j c d hc hd hij,fun i j c d hc hd hij _=>h.to i j c d hc hd hij⟩⟩
theorem R2p.next{H:Heap}{n:Nat}{c:Cell}(h:R2p H n)(hc:H.cells[n]?=some c)(h1:(c.state=0∧Bare c∧c.to=0)∨MovedOk H n c∨UsedOk H c)(h2:c.state=1→¬bornB H n c.born)(h3:c.state=2→¬movedB H n c.to):R2p H (n+1):=by
 refine⟨fun i d hi hd=>?_,fun i j a d ha hd hij hj s1 s2 e=>?_,fun i j a d ha hd hij hj s1 s2 e=>?_⟩
 ·by_cases e:i=n
  ·subst e;rw[hc]at hd;cases hd;exact h1
  ·exact h.each i d (by omega) hd
 ·by_cases e':j=n
  ·subst e';rw[hc]at hd;cases hd;exact h2 s2 ⟨i,a,hij,ha,s1,e⟩
  ·exact h.born i j a d ha hd hij (by omega) s1 s2 e
 ·by_cases e':j=n
  ·subst e';rw[hc]at hd;cases hd;exact h3 s2 ⟨i,a,hij,ha,s1,e⟩
  ·exact h.to i j a d ha hd hij (by omega) s1 s2 e
theorem bornB_next{H:Heap}{n:Nat}{c:Cell}(hc:H.cells[n]?=some c)(b:Int):bornB H (n+1) b↔(c.state=1∧b=c.born)∨bornB H n b:=by
 constructor
 ·rintro⟨j,d,hj,hd,s,e⟩
  by_cases e':j=n
  ·subst e';rw[hc]at hd;cases hd;exact .inl ⟨s,e.symm⟩
  ·exact .inr ⟨j,d,by omega,hd,s,e⟩
 ·rintro(⟨s,e⟩|⟨j,d,hj,hd,s,e⟩)
  ·exact⟨n,c,by omega,hc,s,e.symm⟩
  ·exact⟨j,d,by omega,hd,s,e⟩
theorem movedB_next{H:Heap}{n:Nat}{c:Cell}(hc:H.cells[n]?=some c)(b:Int):movedB H (n+1) b↔(c.state=2∧b=c.to)∨movedB H n b:=by
 constructor
 ·rintro⟨j,d,hj,hd,s,e⟩
  by_cases e':j=n
  ·subst e';rw[hc]at hd;cases hd;exact .inl ⟨s,e.symm⟩
  ·exact .inr ⟨j,d,by omega,hd,s,e⟩
 ·rintro(⟨s,e⟩|⟨j,d,hj,hd,s,e⟩)
  ·exact⟨n,c,by omega,hc,s,e.symm⟩
  ·exact⟨j,d,by omega,hd,s,e⟩
theorem R2.nborn{H:Heap}(h:R2 H){n:Nat}{c:Cell}(hc:H.cells[n]?=some c)(s:c.state=1):¬bornB H n c.born:=fun⟨j,d,hj,hd,s',e⟩=>h.born j n d c hd hc hj s' s e
theorem R2.nmoved{H:Heap}(h:R2 H){n:Nat}{c:Cell}(hc:H.cells[n]?=some c)(s:c.state=2):¬movedB H n c.to:=fun⟨j,d,hj,hd,s',e⟩=>h.to j n d c hd hc hj s' s e
theorem bornB_same{H:Heap}{n:Nat}{c:Cell}(hc:H.cells[n]?=some c)(s:c.state≠1):bornB H (n+1)=bornB H n:=by
 funext b;rw[eq_iff_iff,bornB_next hc];simp[s]
theorem movedB_same{H:Heap}{n:Nat}{c:Cell}(hc:H.cells[n]?=some c)(s:c.state≠2):movedB H (n+1)=movedB H n:=by
 funext b;rw[eq_iff_iff,movedB_next hc];simp[s]
theorem R2.free{H:Heap}(h:R2 H){n:Nat}{c:Cell}(hc:H.cells[n]?=some c)(s:c.state=0):Bare c∧c.to=0:=by
 rcases h.each n c hc with h|h|h
 ·exact h.2
 ·have:=h.1;omega
 ·have:=h.1;omega
theorem R2.moved{H:Heap}(h:R2 H){n:Nat}{c:Cell}(hc:H.cells[n]?=some c)(s:c.state=2):MovedOk H n c:=by
 rcases h.each n c hc with h|h|h
 ·have:=h.1;omega
 ·exact h
 ·have:=h.1;omega
theorem R2.used{H:Heap}(h:R2 H){n:Nat}{c:Cell}(hc:H.cells[n]?=some c)(s:c.state=1):UsedOk H c:=by
 rcases h.each n c hc with h|h|h
 ·have:=h.1;omega
 ·have:=h.1;omega
 ·exact h
theorem rule2_q{m:Mem}{a:Nat}{x:HX}(h:Has m (hp a x)):Qt Tryz.prog 40 [ptr a] m (.bool (decide (R2 x.H))):=by
 have hb:=h.lens
 have hl:=x.len
 refine qt_of (fnA_of (fun h=>fn40 (by simp) h) ?_)
 refine v_seq ?_
 repeat' (first
  |(refine k_L ?_;refine a_p rfl ?_)
  |refine a_n ?_
  |(refine k_V ?_;refine v_reg ?_)
  |refine s_n ?_)
 refine v_seq ?_
 refine v_reg ?_
 refine a_mm (fun mb=>?_)
 refine a_mm (fun mt=>?_)
 rw[setM_none,show(fun _=>False:Int→Prop)=bornB x.H 0 from by funext b;simp[bornB]]
 repeat' (first
  |(refine k_L ?_;first|refine a_p rfl ?_|(refine k_l ?_;refine g_l rfl ?_))
  |refine a_n ?_
  |(refine k_V ?_;first|refine v_seq ?_|refine v_reg ?_)
  |refine s_n ?_)
 refine g_range x.xs.length (fun _:Nat=>[(0,.v (ptr a)),(3,.v (.map (some mb))),(4,.v (.map (some mt))),(13,.v (.slice x.cd.a x.xs.length x.cd.cap))]) (fun n=>[mpA mt (setM (movedB x.H n)),mpA mb (setM (bornB x.H n)),ro m]) (fun i n=>n=i∧R2p x.H i) 0 ⟨rfl,R2p.zero _⟩ (hent:=by rw[show movedB x.H 0=bornB x.H 0 from by funext b;simp[bornB,movedB]];exact Ent.refl _) (fun i n hi hv=>?_) (fun n hv=>?_)
 ·obtain⟨rfl,hv⟩:=hv
  obtain⟨y,gy,gc⟩:=HX.at hi
  have hbp:y.c.pairs.length≤140737488355328:=by obtain⟨b,l,s⟩:=h;exact(kn_t (kn_t (kn_h (kb_cp gy))):Kn (hp a x) _).out b s
  refine v_seq ?_
  repeat' (first
   |(refine k_L ?_;first|refine a_p rfl ?_|(refine k_i ?_;refine g_i rfl rfl ?_)|(refine k_ls ?_;refine g_ls rfl ?_)|(refine k_st ?_;refine g_sw rfl rfl rfl rfl (Nat.le_of_ble_eq_true rfl) ?_)|(refine k_al ?_;refine a_al ?_))
   |refine a_n ?_
   |(refine k_V ?_;refine v_reg ?_)
   |refine s_n ?_
   |refine sk_zero ?_
   |refine sk_succ ?_
   |refine wk_nil ?_
   |refine wk_cons ?_)
  refine v_seq ?_
  repeat' (first
   |(refine k_L ?_;refine a_p rfl ?_)
   |refine a_n ?_
   |(refine k_V ?_;first|refine v_reg ?_|refine v_bs ?_))
  refine v_seq ?_
  repeat' (first
   |(refine k_L ?_;refine a_p rfl ?_)
   |refine a_n ?_
   |(refine k_V ?_;refine v_reg ?_)
   |refine s_n ?_)
  refine v_ce rfl (fun hs0=>?_) (fun hs0=>?_)
  ·repeat' (first
    |(refine k_L ?_;first|refine a_p rfl ?_|(refine k_g ?_;first|refine a_gy rfl rfl ?_|refine a_gn rfl rfl ?_|(refine a_gnd rfl (fun hb=>?_) (fun hb=>?_)<;>try(exfalso;omega)))|(refine k_c ?_;refine a_cq rfl (fun m hm=>bare_q (y:=y)) ?_))
    |refine a_n ?_
    |(refine k_V ?_;first|refine v_rv ?_|refine v_seq ?_|refine v_reg ?_|refine v_skip ?_|refine v_ct rfl ?_|(refine v_cn rfl (fun hb=>?_) (fun hb=>?_)<;>try(exfalso;omega)))
    |refine s_r ?_
    |refine b_n ?_
    |refine b_r ?_
    |refine r_rt ?_)
   ·exact q_F fun h2=>absurd (h2.free gc hs0).1 ‹_›
   ·exact q_F fun h2=>absurd (h2.free gc hs0).2 ‹_›
   ·exact r_nx (n+1) ⟨rfl,hv.next gc (.inl ⟨hs0,‹_›,‹_›⟩) (fun s=>by omega) (fun s=>by omega)⟩ (he:=by rw[bornB_same gc (by omega),movedB_same gc (by omega)];exact Ent.refl _)
  refine v_seq ?_
  repeat' (first
   |(refine k_L ?_;refine a_p rfl ?_)
   |refine a_n ?_
   |(refine k_V ?_;refine v_reg ?_)
   |refine s_n ?_)
  refine v_ce rfl (fun hs2=>?_) (fun hs2=>?_)
  ·have hnc:(x.hdr.nc:Int)=x.xs.length:=rfl
   by_cases hto:0≤y.c.to∧y.c.to≤(n:Int)-1
   ·obtain⟨z,gz,gzc⟩:=HX.atI (x:=x) hto.1 (by omega)
    refine v_seq ?_
    refine v_seq ?_
    repeat' (first
     |(refine k_L ?_;first|(refine k_su ?_;refine g_su rfl rfl ?_)|refine a_p rfl ?_|(refine k_g ?_;first|refine a_gy rfl rfl ?_|refine a_gn rfl rfl ?_|(refine a_gd rfl (fun hb=>?_) (fun hb=>?_)<;>try(exfalso;omega))|(refine a_gne rfl (fun hb=>?_) (fun hb=>?_)<;>try(exfalso;omega))|(refine a_gnd rfl (fun hb=>?_) (fun hb=>?_)<;>try(exfalso;omega)))|(refine k_l ?_;refine g_l rfl ?_)|(refine k_i ?_;refine g_i rfl rfl ?_)|(refine k_q ?_;first|refine a_q rfl (fun m hm=>bare_q (y:=y)) ?_|refine a_q rfl (fun m hm=>impl.withinQ) ?_)|(refine a_lk (by(fail_if_success apply pk_bad);(repeat(first|exact pk_h|apply pk_t));fail_if_success focus skip) rfl rfl (setM_get rfl) ?_))
     |refine a_n ?_
     |(refine k_V ?_;first|refine v_rv ?_|refine v_dreg ?_|refine v_skip ?_|refine v_ct rfl ?_|(refine v_cd rfl (fun hb=>?_) (fun hb=>?_)<;>try(exfalso;omega)))
     |refine s_n ?_
     |refine s_r ?_
     |refine b_r ?_
     |refine r_rt ?_)
    ·exact q_F fun h2=>absurd (h2.moved gc hs2).2.1 ‹_›
    ·exact q_F fun h2=>absurd (h2.moved gc hs2).2.2.1 (by show ¬4≤x.hdr.phase;omega)
    ·exact q_F fun h2=>absurd (gzc▸(h2.moved gc hs2).2.2.2.2.1) ‹_›
    ·exact q_F fun h2=>absurd ‹movedB _ _ _› (h2.nmoved gc hs2)
    have hmb:¬movedB x.H n y.c.to:=‹_›
    have hzs:z.c.state=1:=‹_›
    have hbare:Bare y.c:=‹_›
    have hph:¬x.hdr.phase<4:=‹_›
    refine v_seq ?_
    repeat' (first
     |(refine k_L ?_;first|refine a_p rfl ?_|(refine a_mu (by(fail_if_success apply pk_bad);(repeat(first|exact pk_h|apply pk_t));fail_if_success focus skip) rfl rfl rfl ?_;rw[setM_set (q:=movedB x.H (n+1)) (fun b=>by rw[movedB_next gc];simp[hs2])]))
     |refine a_n ?_
     |(refine k_V ?_;refine v_reg ?_)
     |refine s_n ?_)
    refine v_seq ?_
    repeat' (first
     |(refine k_L ?_;refine a_p rfl ?_)
     |refine a_n ?_
     |(refine k_V ?_;refine v_reg ?_)
     |refine s_n ?_)
    refine v_blk ?_
    refine v_loop (fun k:Nat=>[(0,.v (ptr a)),(3,.v (.map (some mb))),(4,.v (.map (some mt))),(6,.box (csw y)),(7,.v (.int .i64 k)),(13,.v (.slice x.cd.a x.xs.length x.cd.cap)),(14,.v (.int .i64 x.xs.length)),(15,.v (.int .i64 n))]) (fun _=>[mpA mt (setM (movedB x.H (n+1))),mpA mb (setM (bornB x.H n)),ro m])
     (fun f k=>f=y.c.to.toNat-k∧(k:Int)≤y.c.to∧(x.H.phase=4→∀j:Int,0≤j→j<k→(x.H.getC j).state≠0)) ⟨_,0,⟨rfl,rfl,rfl,rfl,rfl,rfl,rfl,rfl,trivial⟩,Ent.refl _,rfl,by omega,fun _ j _ _=>by omega⟩ ?_
    rintro f k ⟨rfl,hk,hw⟩
    have done:(x.H.phase=4→∀j:Int,0≤j→j<y.c.to→(x.H.getC j).state≠0)→R2p x.H (n+1):=fun hd=>
     hv.next gc (.inr (.inl ⟨hs2,hbare,by show 4≤x.hdr.phase;omega,⟨hto.1,by omega⟩,by rw[gzc];exact hzs,hd⟩)) (fun s=>by omega) (fun _=>hmb)
    by_cases hkt:(k:Int)<y.c.to
    ·obtain⟨u,gu,guc⟩:=HX.atI (x:=x) (i:=(k:Int)) (by omega) (by omega)
     repeat' (first
      |(refine k_L ?_;first|(refine k_ad ?_;refine g_ad rfl rfl ?_)|refine a_p rfl ?_|(refine k_g ?_;first|refine a_gy rfl rfl ?_|(refine a_gd rfl (fun hb=>?_) (fun hb=>?_)<;>try(exfalso;omega)))|(refine k_l ?_;refine g_l rfl ?_)|(refine k_i ?_;refine g_i rfl rfl ?_))
      |refine a_n ?_
      |(refine k_V ?_;first|refine v_rv ?_|refine v_seq ?_|refine v_reg ?_|refine v_bs ?_|refine v_exit ?_|refine v_skip ?_|(refine v_cd rfl (fun hb=>?_) (fun hb=>?_)<;>try(exfalso;omega)))
      |refine s_n ?_
      |refine s_r ?_
      |refine s_e ?_
      |refine b_n ?_
      |refine b_r ?_
      |refine b_e ?_
      |refine r_rt ?_)
     ·exact q_F fun h2=>(h2.moved gc hs2).2.2.2.2.2 ‹_› k (by omega) hkt (by rw[guc];assumption)
     ·refine⟨_,k+1,?_,⟨rfl,rfl,rfl,rfl,rfl,rfl,rfl,rfl,trivial⟩,Ent.refl _,rfl,by omega,fun hp j j0 j1=>?_⟩
      ·omega
      ·by_cases e:j=k
       ·subst e;rw[guc];assumption
       ·exact hw hp j j0 (by omega)
     ·exact r_nx (n+1) ⟨rfl,done fun hp=>absurd hp ‹_›⟩ (he:=by rw[bornB_same gc (by omega)];exact Ent.refl _)
    ·repeat' (first
      |(refine k_L ?_;first|refine a_p rfl ?_|(refine k_g ?_;first|refine a_gn rfl rfl ?_|(refine a_gd rfl (fun hb=>?_) (fun hb=>?_)<;>try(exfalso;omega))))
      |refine a_n ?_
      |(refine k_V ?_;first|refine v_seq ?_|refine v_reg ?_|refine v_exit ?_|refine v_cf rfl ?_)
      |refine s_e ?_
      |refine b_n ?_
      |refine b_e ?_)
     exact r_nx (n+1) ⟨rfl,done fun hp j j0 j1=>hw hp j j0 (by omega)⟩ (he:=by rw[bornB_same gc (by omega)];exact Ent.refl _)
   ·repeat' (first
     |(refine k_L ?_;first|(refine k_su ?_;refine g_su rfl rfl ?_)|refine a_p rfl ?_|(refine k_g ?_;first|refine a_gy rfl rfl ?_|refine a_gn rfl rfl ?_|(refine a_gd rfl (fun hb=>?_) (fun hb=>?_)<;>try(exfalso;omega))|(refine a_gnd rfl (fun hb=>?_) (fun hb=>?_)<;>try(exfalso;omega)))|(refine k_l ?_;refine g_l rfl ?_)|(refine k_q ?_;first|refine a_q rfl (fun m hm=>bare_q (y:=y)) ?_|refine a_q rfl (fun m hm=>impl.withinQ) ?_))
     |refine a_n ?_
     |(refine k_V ?_;first|refine v_rv ?_|refine v_seq ?_|refine v_dreg ?_|refine v_ct rfl ?_)
     |refine s_r ?_
     |refine b_r ?_
     |refine r_rt ?_)
    ·exact q_F fun h2=>absurd (h2.moved gc hs2).2.1 ‹_›
    ·exact q_F fun h2=>absurd (h2.moved gc hs2).2.2.1 (by show ¬4≤x.hdr.phase;omega)
    ·exact q_F fun h2=>hto ⟨(h2.moved gc hs2).2.2.2.1.1,by have:=(h2.moved gc hs2).2.2.2.1.2;omega⟩
  refine v_seq ?_
  repeat' (first
   |(refine k_L ?_;refine a_p rfl ?_)
   |refine a_n ?_
   |(refine k_V ?_;refine v_reg ?_)
   |refine s_n ?_)
  refine v_ce rfl (fun hs1=>?_) (fun hs1=>?_)
  ·repeat' (first
    |(refine k_L ?_;first|refine a_p rfl ?_|(refine k_g ?_;first|refine a_gy rfl rfl ?_|refine a_gn rfl rfl ?_|(refine a_gd rfl (fun hb=>?_) (fun hb=>?_)<;>try(exfalso;omega))|(refine a_gne rfl (fun hb=>?_) (fun hb=>?_)<;>try(exfalso;omega))|(refine a_gnd rfl (fun hb=>?_) (fun hb=>?_)<;>try(exfalso;omega)))|(refine k_l ?_;refine g_l rfl ?_)|(refine k_q ?_;refine a_q rfl (fun m hm=>impl.withinQ) ?_)|(refine a_lk (by(fail_if_success apply pk_bad);(repeat(first|exact pk_h|apply pk_t));fail_if_success focus skip) rfl rfl (setM_get rfl) ?_)|(refine a_mu (by(fail_if_success apply pk_bad);(repeat(first|exact pk_h|apply pk_t));fail_if_success focus skip) rfl rfl rfl ?_;rw[setM_set (q:=bornB x.H (n+1)) (fun b=>by rw[bornB_next gc];simp[hs1])]))
    |refine a_n ?_
    |(refine k_V ?_;first|refine v_rv ?_|refine v_seq ?_|refine v_reg ?_|refine v_dreg ?_|refine v_skip ?_|refine v_ct rfl ?_|(refine v_cd rfl (fun hb=>?_) (fun hb=>?_)<;>try(exfalso;omega)))
    |refine s_r ?_
    |refine b_n ?_
    |refine b_r ?_
    |refine r_rt ?_)
   ·exact q_F fun h2=>absurd (h2.used gc hs1).2.1 ‹_›
   ·exact q_F fun h2=>absurd (h2.used gc hs1).2.2.1 ‹_›
   ·exact q_F fun h2=>absurd (h2.used gc hs1).2.2.2.1 ‹_›
   ·exact q_F fun h2=>absurd (h2.used gc hs1).2.2.2.2.1 ‹_›
   ·exact q_F fun h2=>absurd (h2.used gc hs1).2.2.2.2.2.1 ‹_›
   ·exact q_F fun h2=>absurd (h2.used gc hs1).2.2.2.2.2.2.1 ‹_›
   ·exact q_F fun h2=>absurd (h2.used gc hs1).2.2.2.2.2.2.2 (by omega)
   ·exact q_F fun h2=>absurd ‹bornB _ _ _› (h2.nborn gc hs1)
   ·exact r_nx (n+1) ⟨rfl,hv.next gc (.inr (.inr ⟨hs1,‹_›,‹_›,‹_›,‹_›,‹_›,‹_›,by omega⟩)) (fun _=>‹_›) (fun s=>by omega)⟩ (he:=by rw[movedB_same gc (by omega)];exact Pm.ent pmt)
  ·repeat' (first
    |refine a_n ?_
    |(refine k_V ?_;refine v_rv ?_)
    |refine s_r ?_
    |refine b_r ?_
    |refine r_rt ?_)
   exact q_F fun h2=>by
    rcases h2.each n _ gc with h|h|h
    ·exact hs0 h.1
    ·exact hs2 h.1
    ·exact hs1 h.1
 ·obtain⟨rfl,hv⟩:=hv
  repeat' (first
   |refine a_n ?_
   |(refine k_V ?_;refine v_rv ?_))
  exact q_T (R2p.all.1 (by rw[hl];exact hv))
end Go.Proofs.YtcjmodomfilagaaGreat.E
set_option maxHeartbeats 4000000
namespace Go.Proofs.YtcjmodomfilagaaGreat.E
open Go
open Classical
def OK4(H:Heap)(i:Nat)(c:Cell):Prop:=(Doomed H i→¬Root c)∧∀(k:Nat) p,c.pairs[k]?=some p→Formed H p.key∧Formed H p.val∧(¬Doomed H i→LeadsWell H p.key (¬Mended H i k)∧LeadsWell H p.val (¬Mended H i k))
theorem leadsWell_b{H:Heap}{w:Word}{b:Bool}{p:Prop}(h:b=true↔p):LeadsWell H w (b=true)↔LeadsWell H w p:=by unfold LeadsWell;rw[h]
theorem rule4_q{m:Mem}{a:Nat}{x:HX}(h:Has m (hp a x)):Qt Tryz.prog 42 [ptr a] m (.bool (decide (R4 x.H))):=by
 have hb:=h.lens
 have hl:=x.len
 refine qt_of (fnA_of (fun h=>fn42 (by simp) h) ?_)
 repeat' (first
  |(refine k_L ?_;first|refine a_p rfl ?_|(refine k_l ?_;refine g_l rfl ?_))
  |refine a_n ?_
  |(refine k_V ?_;first|refine v_seq ?_|refine v_reg ?_)
  |refine s_n ?_)
 refine g_range x.regs.length (fun _:Unit=>[(0,.v (ptr a)),(13,.v (.slice x.rd.a x.regs.length x.rd.cap))]) (fun _=>[ro m]) (fun i _=>∀(j:Nat) w,j<i→x.regs[j]?=some w→Formed x.H w∧LeadsWell x.H w False) () (fun j c hj=>by omega) (fun i _ hi hv=>?_) (fun _ hr=>?_)
 ·obtain⟨w,gw⟩:∃w,x.regs[i]?=some w:=⟨_,List.getElem?_eq_getElem hi⟩
  repeat' (first
   |(refine k_L ?_;first|refine a_p rfl ?_|(refine k_g ?_;first|refine a_gy rfl rfl ?_|refine a_gn rfl rfl ?_|(refine a_gnd rfl (fun hb=>?_) (fun hb=>?_)<;>try(exfalso;omega)))|(refine k_i ?_;refine g_i rfl rfl ?_)|(refine k_ls ?_;refine g_ls rfl ?_)|(refine k_st ?_;refine g_sw rfl rfl rfl rfl (Nat.le_of_ble_eq_true rfl) ?_)|(refine k_al ?_;refine a_al ?_)|(refine k_c ?_;first|refine a_cq rfl (fun m hm=>formed_g h hm (w:=w)) ?_|refine a_cq rfl (fun m hm=>leadsWell_g h ‹_› hm (w:=w)) ?_))
   |refine a_n ?_
   |(refine k_V ?_;first|refine v_rv ?_|refine v_seq ?_|refine v_reg ?_|refine v_skip ?_|refine v_ct rfl ?_|(refine v_cnd rfl (fun hb=>?_) (fun hb=>?_)<;>try(exfalso;omega)))
   |refine s_r ?_
   |refine r_rt ?_
   |refine sk_zero ?_
   |refine sk_succ ?_
   |refine wk_nil ?_
   |refine wk_cons ?_)
  ·exact q_F fun h4=>absurd ((h4.regs w (List.mem_of_getElem? gw)).1) ‹_›
  ·exact q_F fun h4=>absurd ((leadsWell_b (b:=false) (p:=False) (by simp)).2 (h4.regs w (List.mem_of_getElem? gw)).2) ‹_›
  ·refine r_nx () (fun j v hj hq=>?_)
   by_cases e:j=i
   ·subst e;rw[gw]at hq;cases hq;exact⟨‹_›,(leadsWell_b (b:=false) (p:=False) (by simp)).1 ‹_›⟩
   ·exact hv j v (by omega) hq
 repeat' (first
  |(refine k_L ?_;first|refine a_p rfl ?_|(refine k_l ?_;refine g_l rfl ?_))
  |refine a_n ?_
  |(refine k_V ?_;first|refine v_seq ?_|refine v_reg ?_)
  |refine s_n ?_)
 refine g_range x.xs.length (fun _:Unit=>[(0,.v (ptr a)),(33,.v (.slice x.cd.a x.xs.length x.cd.cap))]) (fun _=>[ro m]) (fun i _=>∀(j:Nat) c,j<i→x.H.cells[j]?=some c→OK4 x.H j c) () (fun j c hj=>by omega) (fun i _ hi hv=>?_) (fun _ hv=>?_)
 ·obtain⟨y,gy,gc⟩:=HX.at hi
  have hbp:y.c.pairs.length≤140737488355328:=by obtain⟨b,l,s⟩:=h;exact(kn_t (kn_t (kn_h (kb_cp gy))):Kn (hp a x) _).out b s
  refine v_seq ?_
  repeat' (first
   |(refine k_L ?_;first|refine a_p rfl ?_|(refine k_i ?_;refine g_i rfl rfl ?_)|(refine k_ls ?_;refine g_ls rfl ?_)|(refine k_st ?_;refine g_sw rfl rfl rfl rfl (Nat.le_of_ble_eq_true rfl) ?_)|(refine k_al ?_;refine a_al ?_))
   |refine a_n ?_
   |(refine k_V ?_;refine v_reg ?_)
   |refine s_n ?_
   |refine sk_zero ?_
   |refine sk_succ ?_
   |refine wk_nil ?_
   |refine wk_cons ?_)
  refine g_cut (fun _:Unit=>[(0,.v (ptr a)),(5,.v (.int .i64 i)),(6,.box (csw y)),(33,.v (.slice x.cd.a x.xs.length x.cd.cap)),(34,.v (.int .i64 x.xs.length)),(35,.v (.int .i64 i))]) (fun _=>[ro m]) (fun _=>Doomed x.H i→¬Root y.c) ?_ (fun _ hdr=>?_)
  ·repeat' (first
    |(refine k_L ?_;first|refine a_p rfl ?_|(refine k_g ?_;first|refine a_gy rfl rfl ?_|refine a_gn rfl rfl ?_|(refine a_gd rfl (fun hb=>?_) (fun hb=>?_)<;>try(exfalso;omega)))|(refine k_c ?_;first|refine a_cq rfl (fun m hm=>doomed_g h (by omega) (by omega) hm (i:=i)) ?_|refine a_cq rfl (fun m hm=>root_q (y:=y)) ?_))
    |refine a_n ?_
    |(refine k_V ?_;first|refine v_rv ?_|refine v_seq ?_|refine v_reg ?_|refine v_skip ?_|refine v_cf rfl ?_|(refine v_cd rfl (fun hb=>?_) (fun hb=>?_)<;>try(exfalso;omega)))
    |refine s_n ?_
    |refine s_r ?_
    |refine r_rt ?_)
   ·exact q_F fun h4=>absurd ‹Root y.c› (h4.roots i _ gc ‹_›)
   all_goals refine j_i () (fun r1=>?_)
   all_goals first|assumption|exact absurd r1 ‹_›
  repeat' (first
   |(refine k_L ?_;refine a_p rfl ?_)
   |refine a_n ?_
   |(refine k_V ?_;first|refine v_seq ?_|refine v_reg ?_)
   |refine s_n ?_)
  refine g_range y.c.pairs.length (fun _:Unit=>[(0,.v (ptr a)),(5,.v (.int .i64 i)),(33,.v (.slice x.cd.a x.xs.length x.cd.cap)),(34,.v (.int .i64 x.xs.length)),(35,.v (.int .i64 i)),(48,.v (.slice y.d.a y.c.pairs.length y.d.cap))]) (fun _=>[ro m]) (fun k _=>∀(j:Nat) p,j<k→y.c.pairs[j]?=some p→Formed x.H p.key∧Formed x.H p.val∧(¬Doomed x.H i→LeadsWell x.H p.key (¬Mended x.H i j)∧LeadsWell x.H p.val (¬Mended x.H i j))) () (fun j c hj=>by omega) (fun k _ hk hv=>?_) (fun _ hw=>?_)
  ·obtain⟨p,gp⟩:∃p,y.c.pairs[k]?=some p:=⟨_,List.getElem?_eq_getElem (by omega)⟩
   have nx:Formed x.H p.key∧Formed x.H p.val∧(¬Doomed x.H i→LeadsWell x.H p.key (¬Mended x.H i k)∧LeadsWell x.H p.val (¬Mended x.H i k))→∀(j:Nat) q,j<k+1→y.c.pairs[j]?=some q→Formed x.H q.key∧Formed x.H q.val∧(¬Doomed x.H i→LeadsWell x.H q.key (¬Mended x.H i j)∧LeadsWell x.H q.val (¬Mended x.H i j)):=by
    intro hp j q hj hq
    by_cases e:j=k
    ·subst e;rw[gp]at hq;cases hq;exact hp
    ·exact hv j q (by omega) hq
   have lw:=fun w=>leadsWell_b (H:=x.H) (w:=w) (b:= !decide (Mended x.H i k)) (p:=¬Mended x.H i k) (by simp)
   repeat' (first
    |(refine k_L ?_;first|refine a_p rfl ?_|(refine k_g ?_;first|refine a_gy rfl rfl ?_|refine a_gn rfl rfl ?_|(refine a_gnd rfl (fun hb=>?_) (fun hb=>?_)<;>try(exfalso;omega)))|(refine k_i ?_;refine g_i rfl rfl ?_)|(refine k_ls ?_;refine g_ls rfl ?_)|(refine k_st ?_;refine g_sw rfl rfl rfl rfl (Nat.le_of_ble_eq_true rfl) ?_)|(refine k_al ?_;refine a_al ?_)|(refine k_c ?_;first|refine a_cq rfl (fun m hm=>formed_g h hm (w:=p.key)) ?_|refine a_cq rfl (fun m hm=>formed_g h hm (w:=p.val)) ?_|refine a_cq rfl (fun m hm=>doomed_g h (by omega) (by omega) hm (i:=i)) ?_|refine a_cq rfl (fun m hm=>mended_g h hm (i:=i) (k:=k)) ?_|refine a_cq rfl (fun m hm=>leadsWell_g h ‹_› hm (w:=p.key)) ?_|refine a_cq rfl (fun m hm=>leadsWell_g h ‹_› hm (w:=p.val)) ?_))
    |refine a_n ?_
    |(refine k_V ?_;first|refine v_rv ?_|refine v_seq ?_|refine v_reg ?_|refine v_exit ?_|refine v_skip ?_|refine v_ct rfl ?_|(refine v_cd rfl (fun hb=>?_) (fun hb=>?_)<;>try(exfalso;omega))|(refine v_cnd rfl (fun hb=>?_) (fun hb=>?_)<;>try(exfalso;omega)))
    |refine s_r ?_
    |refine s_e ?_
    |refine r_rt ?_
    |refine sk_zero ?_
    |refine sk_succ ?_
    |refine wk_nil ?_
    |refine wk_cons ?_)
   ·exact q_F fun h4=>‹¬Formed x.H p.key› (h4.pairs i _ gc k p gp).1
   ·exact q_F fun h4=>‹¬Formed x.H p.val› (h4.pairs i _ gc k p gp).2.1
   ·exact r_ct () (nx ⟨‹_›,‹_›,fun hd=>absurd ‹Doomed x.H i› hd⟩)
   ·exact q_F fun h4=>absurd ((lw p.key).2 ((h4.pairs i _ gc k p gp).2.2 ‹_›).1) ‹_›
   ·exact q_F fun h4=>absurd ((lw p.val).2 ((h4.pairs i _ gc k p gp).2.2 ‹_›).2) ‹_›
   ·exact r_nx () (nx ⟨‹_›,‹_›,fun _=>⟨(lw p.key).1 ‹_›,(lw p.val).1 ‹_›⟩⟩)
  ·repeat' (first
    |(refine k_L ?_;first|(refine k_ad ?_;refine g_ad rfl rfl ?_)|(refine k_su ?_;refine g_su rfl rfl ?_)|(refine k_ml ?_;refine g_ml rfl rfl ?_)|refine a_p rfl ?_|(refine k_g ?_;first|refine a_gy rfl rfl ?_|refine a_gn rfl rfl ?_|refine a_gu rfl ?_|(refine a_gd rfl (fun hb=>?_) (fun hb=>?_)<;>try(exfalso;omega))|(refine a_ge rfl (fun hb=>?_) (fun hb=>?_)<;>try(exfalso;omega))|(refine a_gne rfl (fun hb=>?_) (fun hb=>?_)<;>try(exfalso;omega))|(refine a_gnd rfl (fun hb=>?_) (fun hb=>?_)<;>try(exfalso;omega)))|(refine k_l ?_;refine g_l rfl ?_)|(refine k_i ?_;refine g_i rfl rfl ?_)|(refine k_ls ?_;refine g_ls rfl ?_)|(refine k_st ?_;first|refine g_st rfl rfl rfl rfl ?_|refine g_sw rfl rfl rfl rfl (Nat.le_of_ble_eq_true rfl) ?_)|(refine k_al ?_;refine a_al ?_)|(refine k_bx ?_;refine a_bx rfl rfl ?_)|(refine k_bl ?_;refine a_bl rfl ?_)|(refine k_p ?_;first|(refine a_pd rfl (fun hb=>?_) (fun hb=>?_)<;>try(exfalso;omega))|(refine a_pe rfl (fun hb=>?_) (fun hb=>?_)<;>try(exfalso;omega))|(refine a_pne rfl (fun hb=>?_) (fun hb=>?_)<;>try(exfalso;omega))|(refine a_pnd rfl (fun hb=>?_) (fun hb=>?_)<;>try(exfalso;omega))))
    |refine a_n ?_
    |(refine k_V ?_;first|refine v_rv ?_|refine v_seq ?_|refine v_reg ?_|refine v_dreg ?_|refine v_zreg ?_|refine v_bs ?_|refine v_br ?_|refine v_bd ?_|refine v_bc ?_|refine v_bk ?_|refine v_bb ?_|refine v_ret ?_|refine v_exit ?_|refine v_skip ?_|refine v_ct rfl ?_|refine v_cf rfl ?_|(refine v_cd rfl (fun hb=>?_) (fun hb=>?_)<;>try(exfalso;omega))|(refine v_ce rfl (fun hb=>?_) (fun hb=>?_)<;>try(exfalso;omega))|(refine v_cn rfl (fun hb=>?_) (fun hb=>?_)<;>try(exfalso;omega))|(refine v_cnd rfl (fun hb=>?_) (fun hb=>?_)<;>try(exfalso;omega)))
    |refine s_n ?_
    |refine s_r ?_
    |refine s_e ?_
    |refine b_n ?_
    |refine b_r ?_
    |refine b_e ?_
    |refine b_o rfl ?_
    |refine r_rt ?_
    |refine r_bk rfl ?_
    |refine r_ex rfl rfl ?_
    |refine sk_zero ?_
    |refine sk_succ ?_
    |refine wk_nil ?_
    |refine wk_cons ?_)
   refine r_nx () (fun j c hj hc=>?_)
   by_cases e:j=i
   ·subst e;rw[gc]at hc;cases hc
    exact⟨hdr,fun k p gp=>hw k p (List.getElem?_eq_some_iff.1 gp).1 gp⟩
   ·exact hv j c (by omega) hc
 ·repeat' (first
   |refine a_n ?_
   |(refine k_V ?_;refine v_rv ?_))
  refine q_T ⟨fun w hw=>?_,fun i c hc=>(hv i c (by have:=(List.getElem?_eq_some_iff.1 hc).1;omega) hc).1,fun i c hc=>(hv i c (by have:=(List.getElem?_eq_some_iff.1 hc).1;omega) hc).2⟩
  obtain⟨i,hi⟩:=List.getElem?_of_mem hw
  exact hr i w (List.getElem?_eq_some_iff.1 hi).1 hi
theorem rule8_q{m:Mem}{a:Nat}{x:HX}(h:Has m (hp a x))(h1:R1 x.H):Qt Tryz.prog 46 [ptr a] m (.bool (decide (R8 x.H))):=by
 have hb:=h.lens
 have hh:0≤x.hdr.hand∧x.hdr.hand≤x.xs.length:=by have:=h1.hand;rw[x.len]at this;exact this
 have hnc:x.hdr.nc=x.xs.length:=rfl
 refine qt_of (fnA_of (fun h=>fn46 (by simp) h) ?_)
 repeat' (first
  |(refine k_L ?_;first|refine a_p rfl ?_|(refine k_l ?_;refine g_l rfl ?_))
  |refine a_n ?_
  |(refine k_V ?_;first|refine v_seq ?_|refine v_reg ?_)
  |refine s_n ?_)
 refine v_blk ?_
 refine v_loop (fun i:Int=>[(0,.v (ptr a)),(3,.v (.int .i64 i))]) (fun _=>[ro m]) (fun k i=>k=(x.xs.length-i).toNat∧x.hdr.hand≤i∧i≤x.xs.length∧(x.hdr.phase=6→∀j:Nat,x.hdr.hand≤j→j<i→∀c,x.H.cells[j]?=some c→c.state≠2))
  ⟨_,x.hdr.hand,⟨rfl,rfl,trivial⟩,Ent.refl _,rfl,Int.le_refl _,hh.2,fun _ j _ _=>by omega⟩ ?_
 rintro k i ⟨rfl,h2,h3,h4⟩
 by_cases hi:i<x.xs.length
 ·obtain⟨y,gy,gc⟩:=HX.at (x:=x) (i:=i.toNat) (by omega)
  repeat' (first
   |(refine k_L ?_;first|(refine k_ad ?_;refine g_ad rfl rfl ?_)|refine a_p rfl ?_|(refine k_g ?_;first|refine a_gy rfl rfl ?_|refine a_gn rfl rfl ?_|(refine a_gd rfl (fun hb=>?_) (fun hb=>?_)<;>try(exfalso;omega)))|(refine k_l ?_;refine g_l rfl ?_)|(refine k_i ?_;refine g_i rfl rfl ?_))
   |refine a_n ?_
   |(refine k_V ?_;first|refine v_rv ?_|refine v_seq ?_|refine v_reg ?_|refine v_bs ?_|refine v_exit ?_|refine v_skip ?_|refine v_cf rfl ?_|(refine v_cd rfl (fun hb=>?_) (fun hb=>?_)<;>try(exfalso;omega)))
   |refine s_n ?_
   |refine s_r ?_
   |refine b_r ?_)
  ·exact q_F fun h8=>h8 ‹_› i.toNat _ gc (by show x.hdr.hand≤_;omega) ‹_›
  ·refine⟨_,i+1,?_,⟨rfl,rfl,trivial⟩,Ent.refl _,rfl,by omega,by omega,fun h6 j a1 a2 c hc=>?_⟩
   ·omega
   ·by_cases e:(j:Int)<i
    ·exact h4 h6 j a1 e c hc
    ·have:j=i.toNat:=by omega
     subst this
     rw[gc]at hc;cases hc;assumption
  all_goals exact q_T fun h6=>absurd h6 ‹_›
 ·repeat' (first
   |(refine k_L ?_;first|refine a_p rfl ?_|(refine k_g ?_;first|refine a_gy rfl rfl ?_|refine a_gn rfl rfl ?_|(refine a_gd rfl (fun hb=>?_) (fun hb=>?_)<;>try(exfalso;omega)))|(refine k_l ?_;refine g_l rfl ?_))
   |refine a_n ?_
   |(refine k_V ?_;first|refine v_rv ?_|refine v_seq ?_|refine v_reg ?_|refine v_exit ?_|refine v_cf rfl ?_|(refine v_cd rfl (fun hb=>?_) (fun hb=>?_)<;>try(exfalso;omega))))
  ·exact q_T fun h6 j c hc hj=>h4 h6 j hj (by have:=(List.getElem?_eq_some_iff.1 hc).1;have:=x.len;omega) c hc
  all_goals exact q_T fun h6=>absurd h6 ‹_›
def OK7(H:Heap)(i:Nat)(c:Cell):Prop:=(Root c→c.color=0→H.phase≠2∧H.hand≤i)∧∀(k:Nat) p,c.pairs[k]?=some p→(k:Int)<scanned H i c→¬White H p.key∧¬White H p.val
theorem rule7_q{m:Mem}{a:Nat}{x:HX}(h:Has m (hp a x))(h1:R1 x.H)(h4:R4 x.H)(h6:R6 x.H):Qt Tryz.prog 45 [ptr a] m (.bool (decide (R7 x.H))):=by
 have hb:=h.lens
 have hl:=x.len
 refine qt_of (fnA_of (fun h=>fn45 (by simp) h) ?_)
 repeat' (first
  |(refine k_L ?_;first|refine a_p rfl ?_|(refine k_l ?_;refine g_l rfl ?_)|(refine k_c ?_;refine a_cq rfl (fun m hm=>marking_g h hm) ?_))
  |refine a_n ?_
  |(refine k_V ?_;first|refine v_rv ?_|refine v_seq ?_|refine v_reg ?_|refine v_skip ?_|(refine v_cnd rfl (fun hb=>?_) (fun hb=>?_)<;>try(exfalso;omega)))
  |refine s_n ?_
  |refine s_r ?_)
 ·exact q_T fun hk=>absurd hk ‹_›
 rename_i hmk
 have g0:(∃g,x.gray[(0:Int).toNat]?=some g∧x.H.gray.head?=some g)∨(x.hdr.ng:Int)=0∧x.H.gray.head?=none:=by
  show(∃g,x.gray[(0:Int).toNat]?=some g∧x.gray.head?=some g)∨(x.gray.length:Int)=0∧x.gray.head?=none
  cases x.gray with
  |nil=>exact .inr ⟨rfl,rfl⟩
  |cons g r=>exact .inl ⟨g,rfl,rfl⟩
 have hng:x.hdr.ng=x.gray.length:=rfl
 refine g_range x.xs.length (fun _:Unit=>[(0,.v (ptr a)),(14,.v (.slice x.cd.a x.xs.length x.cd.cap))]) (fun _=>[ro m]) (fun i _=>∀(j:Nat) c,j<i→x.H.cells[j]?=some c→OK7 x.H j c) () (fun j c hj=>by omega) (fun i _ hi hv=>?_) (fun _ hv=>?_)
 ·obtain⟨y,gy,gc⟩:=HX.at hi
  have hcp:=(kn_t (kn_t (kn_h (kc_cp gy))):Kn (hp a x) _)
  have hcap:y.c.pairs.length≤y.d.cap:=by obtain⟨b,l,s⟩:=h;exact hcp.out b s
  have hsc:(if y.c.color=2 then(y.c.pairs.length:Int)else if x.hdr.phase=2∧x.H.gray.head?=some (i:Int)then x.hdr.sub else 0)=scanned x.H i y.c:=rfl
  refine v_seq ?_
  repeat' (first
   |(refine k_L ?_;first|refine a_p rfl ?_|(refine k_i ?_;refine g_i rfl rfl ?_)|(refine k_ls ?_;refine g_ls rfl ?_)|(refine k_st ?_;refine g_sw rfl rfl rfl rfl (Nat.le_of_ble_eq_true rfl) ?_)|(refine k_al ?_;refine a_al ?_))
   |refine a_n ?_
   |(refine k_V ?_;refine v_reg ?_)
   |refine s_n ?_
   |refine sk_zero ?_
   |refine sk_succ ?_
   |refine wk_nil ?_
   |refine wk_cons ?_)
  refine g_cut (fun _:Unit=>[(0,.v (ptr a)),(3,.v (.int .i64 i)),(4,.box (csw y)),(14,.v (.slice x.cd.a x.xs.length x.cd.cap)),(15,.v (.int .i64 x.xs.length)),(16,.v (.int .i64 i))]) (fun _=>[ro m]) (fun _=>Root y.c→y.c.color=0→x.hdr.phase≠2∧x.hdr.hand≤i) ?_ (fun _ hr=>?_)
  ·repeat' (first
    |(refine k_L ?_;first|refine a_p rfl ?_|(refine k_g ?_;first|refine a_gy rfl rfl ?_|refine a_gn rfl rfl ?_|refine a_gu rfl ?_|(refine a_gd rfl (fun hb=>?_) (fun hb=>?_)<;>try(exfalso;omega)))|(refine k_l ?_;refine g_l rfl ?_)|(refine k_c ?_;refine a_cq rfl (fun m hm=>root_q (y:=y)) ?_))
    |refine a_n ?_
    |(refine k_V ?_;first|refine v_rv ?_|refine v_seq ?_|refine v_reg ?_|refine v_skip ?_|refine v_ct rfl ?_|refine v_cf rfl ?_|(refine v_cd rfl (fun hb=>?_) (fun hb=>?_)<;>try(exfalso;omega)))
    |refine s_n ?_
    |refine s_r ?_
    |refine r_rt ?_)
   ·exact q_F fun h7=>absurd ‹x.hdr.phase=2› ((h7 ‹_› i _ gc).1 ‹_› ‹_›).1
   ·exact q_F fun h7=>absurd ((h7 ‹_› i _ gc).1 ‹_› ‹_›).2 (by show ¬x.hdr.hand≤_;omega)
   all_goals refine j_i () (fun r1 r2=>?_)
   ·exact⟨‹_›,by omega⟩
   all_goals first|exact absurd r1 ‹_›|exact absurd r2 ‹_›
  refine v_seq ?_
  repeat' (first
   |(refine k_L ?_;refine a_p rfl ?_)
   |refine a_n ?_
   |(refine k_V ?_;refine v_reg ?_)
   |refine s_n ?_)
  refine g_cut (fun n:Int=>[(0,.v (ptr a)),(3,.v (.int .i64 i)),(4,.box (csw y)),(5,.v (.int .i64 n)),(14,.v (.slice x.cd.a x.xs.length x.cd.cap)),(15,.v (.int .i64 x.xs.length)),(16,.v (.int .i64 i))]) (fun _=>[ro m]) (fun n=>n=scanned x.H i y.c) ?_ (fun n hn=>?_)
  ·rw[←hsc]
   rcases g0 with⟨g,g0,g1⟩|⟨g0,g1⟩
   ·have hlg:=(List.getElem?_eq_some_iff.1 g0).1
    have hlg2:(0:Int)<x.hdr.ng:=by rw[hng];have:(0:Int).toNat=0:=rfl;omega
    repeat' (first
     |(refine k_L ?_;first|refine a_p rfl ?_|(refine k_g ?_;first|refine a_gy rfl rfl ?_|refine a_gn rfl rfl ?_|(refine a_gd rfl (fun hb=>?_) (fun hb=>?_)<;>try(exfalso;omega)))|(refine k_l ?_;refine g_l rfl ?_)|(refine k_i ?_;refine g_i rfl rfl ?_))
     |refine a_n ?_
     |(refine k_V ?_;first|refine v_seq ?_|refine v_reg ?_|refine v_skip ?_|refine v_cf rfl ?_|(refine v_cd rfl (fun hb=>?_) (fun hb=>?_)<;>try(exfalso;omega)))
     |refine s_n ?_)
    all_goals refine j_i _ ?_
    all_goals simp_all
   ·repeat' (first
     |(refine k_L ?_;first|refine a_p rfl ?_|(refine k_g ?_;first|refine a_gy rfl rfl ?_|refine a_gn rfl rfl ?_|(refine a_gd rfl (fun hb=>?_) (fun hb=>?_)<;>try(exfalso;omega)))|(refine k_l ?_;refine g_l rfl ?_))
     |refine a_n ?_
     |(refine k_V ?_;first|refine v_seq ?_|refine v_reg ?_|refine v_skip ?_|refine v_cf rfl ?_|(refine v_cd rfl (fun hb=>?_) (fun hb=>?_)<;>try(exfalso;omega)))
     |refine s_n ?_)
    all_goals refine j_i _ ?_
    all_goals simp_all
  have hbp:y.c.pairs.length≤140737488355328:=by obtain⟨b,l,s⟩:=h;exact(kn_t (kn_t (kn_h (kb_cp gy))):Kn (hp a x) _).out b s
  have hn0:0≤n∧n≤y.c.pairs.length:=by
   rw[hn,←hsc]
   split
   ·omega
   ·split
    ·rename_i hg
     have hg2:=h6
     unfold R6 at hg2
     have hp:x.H.phase=2:=hg.1
     rw[if_neg (by rw[hp];decide),if_pos hp]at hg2
     cases hgr:x.H.gray with
     |nil=>rw[hgr]at hg;simp at hg
     |cons g r=>
      rw[hgr]at hg hg2
      have hgi:g=(i:Int):=by simpa using hg.2
      have h3:=hg2.2
      simp only[hgi]at h3
      have hgc:x.H.getC (i:Int)=y.c:=by unfold Heap.getC;rw[List.getD_eq_getElem?_getD];show(x.H.cells[i]?).getD _=_;rw[gc];rfl
      rw[hgc]at h3
      exact⟨h1.sub.1,h3⟩
    ·omega
  repeat' (first
   |(refine k_L ?_;first|refine a_p rfl ?_|(refine g_tk (e:=y.d) rfl rfl ?_))
   |refine a_n ?_
   |(refine k_V ?_;first|refine v_seq ?_|refine v_reg ?_)
   |refine s_n ?_)
  refine g_range n.toNat (fun _:Unit=>[(0,.v (ptr a)),(14,.v (.slice x.cd.a x.xs.length x.cd.cap)),(15,.v (.int .i64 x.xs.length)),(16,.v (.int .i64 i)),(79,.v (.slice y.d.a n.toNat y.d.cap))]) (fun _=>[ro m]) (fun k _=>∀(j:Nat) p,j<k→y.c.pairs[j]?=some p→¬White x.H p.key∧¬White x.H p.val) () (fun j c hj=>by omega) (fun k _ hk hv=>?_) (fun _ hw=>?_)
  ·obtain⟨p,gp⟩:∃p,y.c.pairs[k]?=some p:=⟨_,List.getElem?_eq_getElem (by omega)⟩
   obtain⟨f1,f2,_⟩:=h4.pairs i _ gc k p gp
   repeat' (first
    |(refine k_L ?_;first|refine a_p rfl ?_|(refine k_g ?_;first|refine a_gy rfl rfl ?_|refine a_gn rfl rfl ?_|(refine a_gd rfl (fun hb=>?_) (fun hb=>?_)<;>try(exfalso;omega)))|(refine k_i ?_;refine g_i rfl rfl ?_)|(refine k_ls ?_;refine g_ls rfl ?_)|(refine k_st ?_;refine g_sw rfl rfl rfl rfl (Nat.le_of_ble_eq_true rfl) ?_)|(refine k_al ?_;refine a_al ?_)|(refine k_c ?_;first|refine a_cq rfl (fun m hm=>white_g h f1 hm) ?_|refine a_cq rfl (fun m hm=>white_g h f2 hm) ?_))
    |refine a_n ?_
    |(refine k_V ?_;first|refine v_rv ?_|refine v_seq ?_|refine v_reg ?_|refine v_skip ?_|refine v_ct rfl ?_|(refine v_cd rfl (fun hb=>?_) (fun hb=>?_)<;>try(exfalso;omega)))
    |refine s_r ?_
    |refine r_rt ?_
    |refine sk_zero ?_
    |refine sk_succ ?_
    |refine wk_nil ?_
    |refine wk_cons ?_)
   ·exact q_F fun h7=>((h7 ‹_› i _ gc).2 k p gp (by rw[←hn];omega)).1 ‹_›
   ·exact q_F fun h7=>((h7 ‹_› i _ gc).2 k p gp (by rw[←hn];omega)).2 ‹_›
   ·refine r_nx () (fun j q hj hq=>?_)
    by_cases e:j=k
    ·subst e;rw[gp]at hq;cases hq;exact⟨‹_›,‹_›⟩
    ·exact hv j q (by omega) hq
  ·repeat' (first
    |(refine k_L ?_;first|(refine k_ad ?_;refine g_ad rfl rfl ?_)|(refine k_su ?_;refine g_su rfl rfl ?_)|(refine k_ml ?_;refine g_ml rfl rfl ?_)|refine a_p rfl ?_|(refine k_g ?_;first|refine a_gy rfl rfl ?_|refine a_gn rfl rfl ?_|refine a_gu rfl ?_|(refine a_gd rfl (fun hb=>?_) (fun hb=>?_)<;>try(exfalso;omega))|(refine a_ge rfl (fun hb=>?_) (fun hb=>?_)<;>try(exfalso;omega))|(refine a_gne rfl (fun hb=>?_) (fun hb=>?_)<;>try(exfalso;omega))|(refine a_gnd rfl (fun hb=>?_) (fun hb=>?_)<;>try(exfalso;omega)))|(refine k_l ?_;refine g_l rfl ?_)|(refine k_i ?_;refine g_i rfl rfl ?_)|(refine k_ls ?_;refine g_ls rfl ?_)|(refine k_st ?_;first|refine g_st rfl rfl rfl rfl ?_|refine g_sw rfl rfl rfl rfl (Nat.le_of_ble_eq_true rfl) ?_)|(refine k_al ?_;refine a_al ?_)|(refine k_bx ?_;refine a_bx rfl rfl ?_)|(refine k_bl ?_;refine a_bl rfl ?_)|(refine k_p ?_;first|(refine a_pd rfl (fun hb=>?_) (fun hb=>?_)<;>try(exfalso;omega))|(refine a_pe rfl (fun hb=>?_) (fun hb=>?_)<;>try(exfalso;omega))|(refine a_pne rfl (fun hb=>?_) (fun hb=>?_)<;>try(exfalso;omega))|(refine a_pnd rfl (fun hb=>?_) (fun hb=>?_)<;>try(exfalso;omega))))
    |refine a_n ?_
    |(refine k_V ?_;first|refine v_rv ?_|refine v_seq ?_|refine v_reg ?_|refine v_dreg ?_|refine v_zreg ?_|refine v_bs ?_|refine v_br ?_|refine v_bd ?_|refine v_bc ?_|refine v_bk ?_|refine v_bb ?_|refine v_ret ?_|refine v_exit ?_|refine v_skip ?_|refine v_ct rfl ?_|refine v_cf rfl ?_|(refine v_cd rfl (fun hb=>?_) (fun hb=>?_)<;>try(exfalso;omega))|(refine v_ce rfl (fun hb=>?_) (fun hb=>?_)<;>try(exfalso;omega))|(refine v_cn rfl (fun hb=>?_) (fun hb=>?_)<;>try(exfalso;omega))|(refine v_cnd rfl (fun hb=>?_) (fun hb=>?_)<;>try(exfalso;omega)))
    |refine s_n ?_
    |refine s_r ?_
    |refine s_e ?_
    |refine b_n ?_
    |refine b_r ?_
    |refine b_e ?_
    |refine b_o rfl ?_
    |refine r_rt ?_
    |refine r_bk rfl ?_
    |refine r_ex rfl rfl ?_
    |refine sk_zero ?_
    |refine sk_succ ?_
    |refine wk_nil ?_
    |refine wk_cons ?_)
   refine r_nx () (fun j c hj hc=>?_)
   by_cases e:j=i
   ·subst e;rw[gc]at hc;cases hc
    exact⟨hr,fun k p gp hk=>hw k p (by rw[←hn]at hk;omega) gp⟩
   ·exact hv j c (by omega) hc
 ·repeat' (first
   |refine a_n ?_
   |(refine k_V ?_;refine v_rv ?_))
  exact q_T fun hm i c hc=>hv i c (by have:=(List.getElem?_eq_some_iff.1 hc).1;omega) hc
theorem fnOk_of{P : Program}{g : FuncId}{fn : Func}(h : P.funcs[g]? = some fn)(hb : fn.body.isSome = true)(hn : (fn.name != "runtime.NumGoroutine") = true): fnOk P g = true := by
 unfold fnOk;rw[h];simp only[hb,hn];rfl
theorem a_nwh{P:Program}{S:St}{As:List Asr}{post:St→List Asr→Prop}{r:List I}{d:Option Nat}{t:Operand}(x:HX)(hx:ev S t=some x.v)(hp:∀b,LA P r post (put S d (.v (ptr b))) (hdA b x.hdr::As)):LA P (⟨d,none,.box false t⟩::r) post S As:=
 a_nw (vs:=x.row) hx rfl hp
def nRule(H:Heap):Nat→Prop
 |0=>R1 H
 |1=>R2 H
 |2=>R3 H
 |3=>R4 H
 |4=>R5 H
 |5=>R6 H
 |6=>R7 H
 |_=>R8 H
theorem okH_at{H:Heap}{n:Nat}(hn:n<8)(h:∀j,j<n→nRule H j)(hf:¬nRule H n):okH H=(n:Int)+1:=by
 have g:∀j,j<8→j<n→nRule H j:=fun j _=>h j
 have g0:=g 0;have g1:=g 1;have g2:=g 2;have g3:=g 3;have g4:=g 4;have g5:=g 5;have g6:=g 6
 simp only[nRule]at g0 g1 g2 g3 g4 g5 g6
 unfold okH
 rcases(by omega:n=0∨n=1∨n=2∨n=3∨n=4∨n=5∨n=6∨n=7)with rfl|rfl|rfl|rfl|rfl|rfl|rfl|rfl<;>simp only[nRule]at hf<;>simp_all
theorem okH_all{H:Heap}(h:∀j,j<8→nRule H j):okH H=0:=
 (okH_sound H).2 ⟨h 0 (by omega),h 1 (by omega),h 2 (by omega),h 3 (by omega),h 4 (by omega),h 5 (by omega),h 6 (by omega),h 7 (by omega)⟩
def fnV(b g:Nat):Value:=.func (.func g) #[ptr b] #[]
def rlS(b:Nat):List Value:=[fnV b 39,fnV b 40,fnV b 41,fnV b 42,fnV b 43,fnV b 44,fnV b 45,fnV b 46]
theorem r_v1{d:D}{xs:List Value}{i:Nat}{v:Value}(hi:xs[i]?=some v):RdA (slA 1 (fun v:Value=>[v]) d xs) d.b (d.o+i*1) v:=rd_sl (j:=0) (fun _=>rfl) hi rfl
theorem implHeapOk_q{m:Mem}{x:HX}(h:Has m x.body):Qt Tryz.prog 15 [x.v] m (.int .i64 (okH x.H)):=by
 refine qt_of (fnA_of (fun h=>fn15 (by simp) h) ?_)
 refine v_seq (v_reg (a_nwh x rfl (fun b=>?_)))
 have hs:∀m',star [hdA b x.hdr,ro m] m'→Has m' (hp b x):=fun m' s=>has_new h s pmt (F:=[])
 repeat' (first
  |(refine k_L ?_;first|refine a_p rfl ?_|(refine a_ns (f:=fun v:Value=>[v]) (rlS b) (fun _=>rfl) rfl rfl rfl (by omega) (fun e he=>?_)))
  |refine a_n ?_
  |(refine k_V ?_;first|refine v_seq ?_|refine v_reg ?_)
  |refine s_n ?_)
 refine g_range 8 (fun _:Unit=>[(13,.v (.slice e.a 8 8))]) (fun _=>[slA 1 (fun v:Value=>[v]) e (rlS b),hdA b x.hdr,ro m]) (fun i _=>∀j,j<i→nRule x.H j) () (fun j hj=>by omega) (fun i _ hi hv=>?_) (fun _ hv=>?_)
 ·have hH:∀m',star [slA 1 (fun v:Value=>[v]) e (rlS b),hdA b x.hdr,ro m] m'→Has m' (hp b x):=fun m' ⟨m1,m2,d,e1,_,s⟩=>by subst e1;exact(hs m2 s).le (le_r d)
  have nx:nRule x.H i→∀j,j<i+1→nRule x.H j:=fun hr j hj=>by
   by_cases e:j=i
   ·subst e;exact hr
   ·exact hv j (by omega)
  rcases(by omega:i=0∨i=1∨i=2∨i=3∨i=4∨i=5∨i=6∨i=7)with rfl|rfl|rfl|rfl|rfl|rfl|rfl|rfl
  ·have gk:(rlS b)[0]?=some (fnV b 39):=rfl
   repeat' (first
    |(refine k_L ?_;first|(refine k_ad ?_;refine g_ad rfl rfl ?_)|refine a_p rfl ?_|(refine k_l ?_;refine a_l rfl (by exact rd_h (r_v1 (i:=0) rfl)) ?_)|(refine k_i ?_;refine g_i rfl rfl ?_)|(refine a_cvq rfl (fnOk_of Tryz.func39 rfl rfl) rfl (fun m hm=>rule1_q (hH m hm)) ?_))
    |refine a_n ?_
    |(refine k_V ?_;first|refine v_seq ?_|refine v_reg ?_|refine v_ret ?_|refine v_skip ?_|(refine v_cnd rfl (fun hb=>?_) (fun hb=>?_)<;>try(exfalso;omega)))
    |refine s_r ?_
    |refine r_rt ?_)
   ·exact fa_q (by simp) (fun _ _=>rfl) (by rw[okH_at (n:=0) (by omega) hv ‹_›])
   ·exact r_nx () (nx ‹_›)
  ·have gk:(rlS b)[1]?=some (fnV b 40):=rfl
   repeat' (first
    |(refine k_L ?_;first|(refine k_ad ?_;refine g_ad rfl rfl ?_)|refine a_p rfl ?_|(refine k_l ?_;refine a_l rfl (by exact rd_h (r_v1 (i:=1) rfl)) ?_)|(refine k_i ?_;refine g_i rfl rfl ?_)|(refine a_cvq rfl (fnOk_of Tryz.func40 rfl rfl) rfl (fun m hm=>rule2_q (hH m hm)) ?_))
    |refine a_n ?_
    |(refine k_V ?_;first|refine v_seq ?_|refine v_reg ?_|refine v_ret ?_|refine v_skip ?_|(refine v_cnd rfl (fun hb=>?_) (fun hb=>?_)<;>try(exfalso;omega)))
    |refine s_r ?_
    |refine r_rt ?_)
   ·exact fa_q (by simp) (fun _ _=>rfl) (by rw[okH_at (n:=1) (by omega) hv ‹_›])
   ·exact r_nx () (nx ‹_›)
  ·have gk:(rlS b)[2]?=some (fnV b 41):=rfl
   repeat' (first
    |(refine k_L ?_;first|(refine k_ad ?_;refine g_ad rfl rfl ?_)|refine a_p rfl ?_|(refine k_l ?_;refine a_l rfl (by exact rd_h (r_v1 (i:=2) rfl)) ?_)|(refine k_i ?_;refine g_i rfl rfl ?_)|(refine a_cvq rfl (fnOk_of Tryz.func41 rfl rfl) rfl (fun m hm=>rule3_q (hH m hm) (hv 0 (by omega)) (hv 1 (by omega))) ?_))
    |refine a_n ?_
    |(refine k_V ?_;first|refine v_seq ?_|refine v_reg ?_|refine v_ret ?_|refine v_skip ?_|(refine v_cnd rfl (fun hb=>?_) (fun hb=>?_)<;>try(exfalso;omega)))
    |refine s_r ?_
    |refine r_rt ?_)
   ·exact fa_q (by simp) (fun _ _=>rfl) (by rw[okH_at (n:=2) (by omega) hv ‹_›])
   ·exact r_nx () (nx ‹_›)
  ·have gk:(rlS b)[3]?=some (fnV b 42):=rfl
   repeat' (first
    |(refine k_L ?_;first|(refine k_ad ?_;refine g_ad rfl rfl ?_)|refine a_p rfl ?_|(refine k_l ?_;refine a_l rfl (by exact rd_h (r_v1 (i:=3) rfl)) ?_)|(refine k_i ?_;refine g_i rfl rfl ?_)|(refine a_cvq rfl (fnOk_of Tryz.func42 rfl rfl) rfl (fun m hm=>rule4_q (hH m hm)) ?_))
    |refine a_n ?_
    |(refine k_V ?_;first|refine v_seq ?_|refine v_reg ?_|refine v_ret ?_|refine v_skip ?_|(refine v_cnd rfl (fun hb=>?_) (fun hb=>?_)<;>try(exfalso;omega)))
    |refine s_r ?_
    |refine r_rt ?_)
   ·exact fa_q (by simp) (fun _ _=>rfl) (by rw[okH_at (n:=3) (by omega) hv ‹_›])
   ·exact r_nx () (nx ‹_›)
  ·have gk:(rlS b)[4]?=some (fnV b 43):=rfl
   repeat' (first
    |(refine k_L ?_;first|(refine k_ad ?_;refine g_ad rfl rfl ?_)|refine a_p rfl ?_|(refine k_l ?_;refine a_l rfl (by exact rd_h (r_v1 (i:=4) rfl)) ?_)|(refine k_i ?_;refine g_i rfl rfl ?_)|(refine a_cvq rfl (fnOk_of Tryz.func43 rfl rfl) rfl (fun m hm=>rule5_q (hH m hm)) ?_))
    |refine a_n ?_
    |(refine k_V ?_;first|refine v_seq ?_|refine v_reg ?_|refine v_ret ?_|refine v_skip ?_|(refine v_cnd rfl (fun hb=>?_) (fun hb=>?_)<;>try(exfalso;omega)))
    |refine s_r ?_
    |refine r_rt ?_)
   ·exact fa_q (by simp) (fun _ _=>rfl) (by rw[okH_at (n:=4) (by omega) hv ‹_›])
   ·exact r_nx () (nx ‹_›)
  ·have gk:(rlS b)[5]?=some (fnV b 44):=rfl
   repeat' (first
    |(refine k_L ?_;first|(refine k_ad ?_;refine g_ad rfl rfl ?_)|refine a_p rfl ?_|(refine k_l ?_;refine a_l rfl (by exact rd_h (r_v1 (i:=5) rfl)) ?_)|(refine k_i ?_;refine g_i rfl rfl ?_)|(refine a_cvq rfl (fnOk_of Tryz.func44 rfl rfl) rfl (fun m hm=>rule6_q (hH m hm) (hv 0 (by omega)) (hv 4 (by omega))) ?_))
    |refine a_n ?_
    |(refine k_V ?_;first|refine v_seq ?_|refine v_reg ?_|refine v_ret ?_|refine v_skip ?_|(refine v_cnd rfl (fun hb=>?_) (fun hb=>?_)<;>try(exfalso;omega)))
    |refine s_r ?_
    |refine r_rt ?_)
   ·exact fa_q (by simp) (fun _ _=>rfl) (by rw[okH_at (n:=5) (by omega) hv ‹_›])
   ·exact r_nx () (nx ‹_›)
  ·have gk:(rlS b)[6]?=some (fnV b 45):=rfl
   repeat' (first
    |(refine k_L ?_;first|(refine k_ad ?_;refine g_ad rfl rfl ?_)|refine a_p rfl ?_|(refine k_l ?_;refine a_l rfl (by exact rd_h (r_v1 (i:=6) rfl)) ?_)|(refine k_i ?_;refine g_i rfl rfl ?_)|(refine a_cvq rfl (fnOk_of Tryz.func45 rfl rfl) rfl (fun m hm=>rule7_q (hH m hm) (hv 0 (by omega)) (hv 3 (by omega)) (hv 5 (by omega))) ?_))
    |refine a_n ?_
    |(refine k_V ?_;first|refine v_seq ?_|refine v_reg ?_|refine v_ret ?_|refine v_skip ?_|(refine v_cnd rfl (fun hb=>?_) (fun hb=>?_)<;>try(exfalso;omega)))
    |refine s_r ?_
    |refine r_rt ?_)
   ·exact fa_q (by simp) (fun _ _=>rfl) (by rw[okH_at (n:=6) (by omega) hv ‹_›])
   ·exact r_nx () (nx ‹_›)
  ·have gk:(rlS b)[7]?=some (fnV b 46):=rfl
   repeat' (first
    |(refine k_L ?_;first|(refine k_ad ?_;refine g_ad rfl rfl ?_)|refine a_p rfl ?_|(refine k_l ?_;refine a_l rfl (by exact rd_h (r_v1 (i:=7) rfl)) ?_)|(refine k_i ?_;refine g_i rfl rfl ?_)|(refine a_cvq rfl (fnOk_of Tryz.func46 rfl rfl) rfl (fun m hm=>rule8_q (hH m hm) (hv 0 (by omega))) ?_))
    |refine a_n ?_
    |(refine k_V ?_;first|refine v_seq ?_|refine v_reg ?_|refine v_ret ?_|refine v_skip ?_|(refine v_cnd rfl (fun hb=>?_) (fun hb=>?_)<;>try(exfalso;omega)))
    |refine s_r ?_
    |refine r_rt ?_)
   ·exact fa_q (by simp) (fun _ _=>rfl) (by rw[okH_at (n:=7) (by omega) hv ‹_›])
   ·exact r_nx () (nx ‹_›)
 ·repeat' (first
   |refine a_n ?_
   |(refine k_V ?_;refine v_rv ?_))
  exact fa_q (by simp) (fun _ _=>rfl) (by rw[okH_all hv])
end Go.Proofs.YtcjmodomfilagaaGreat.E
