/- A part of the proof. Conditions: none. -/
import Derived.Test.YtcjmodomfilagaaGreatKH8
set_option linter.unusedVariables false
set_option linter.unusedSimpArgs false
set_option maxHeartbeats 8000000
set_option maxRecDepth 100000
namespace Go.Proofs.YtcjmodomfilagaaGreat.E
open Go
open Classical
theorem l1words_q{m:Mem}{a:Nat}{x:HX}(h:Has m (hp a x)):Qt Tryz.prog 72 [ptr a] m (.bool (decide (R4 x.H))):=by
 have hb:=h.lens
 have hl:=x.len
 have hnc:(x.hdr.nc:Int)=x.H.cells.length:=by rw[hl];rfl
 refine qt_of (fnA_of (fun h=>fn72 (by simp) h) ?_)
 repeat' (first
  |(refine k_L ?_;first|refine a_p rfl ?_|(refine k_l ?_;refine g_l rfl ?_))
  |refine a_n ?_
  |(refine k_V ?_;first|refine v_seq ?_|refine v_reg ?_)
  |refine s_n ?_)
 refine g_range x.regs.length (fun _:Unit=>[(0,.v (ptr a)),(14,.v (.slice x.rd.a x.regs.length x.rd.cap))]) (fun _=>[ro m]) (fun i _=>∀(j:Nat) w,j<i→x.regs[j]?=some w→Formed x.H w∧LeadsWell x.H w False) () (fun j c hj=>by omega) (fun i _ hi hv=>?_) (fun _ hr=>?_)
 ·obtain⟨w,gw⟩:∃w,x.regs[i]?=some w:=⟨_,List.getElem?_eq_getElem hi⟩
  have lw:=leadsWell_b (H:=x.H) (w:=w) (b:=false) (p:=False) (by simp)
  repeat' (first
   |(refine k_L ?_;first|refine a_p rfl ?_|(refine k_i ?_;refine g_i rfl rfl ?_)|(refine k_ls ?_;refine g_ls rfl ?_)|(refine k_st ?_;refine g_sw rfl rfl rfl rfl (Nat.le_of_ble_eq_true rfl) ?_)|(refine k_al ?_;refine a_al ?_)|(refine k_c ?_;refine a_cq rfl (fun m hm=>l1leads_q (w:=w) (has_g h hm)) ?_))
   |refine a_n ?_
   |(refine k_V ?_;first|refine v_rv ?_|refine v_seq ?_|refine v_reg ?_|refine v_skip ?_|(refine v_cnd rfl (fun hb=>?_) (fun hb=>?_)<;>try(exfalso;omega)))
   |refine s_r ?_
   |refine r_rt ?_
   |refine sk_zero ?_
   |refine sk_succ ?_
   |refine wk_nil ?_
   |refine wk_cons ?_)
  ·refine q_F fun h4=>?_
   have:=h4.regs w (List.mem_of_getElem? gw)
   have hn:¬(Formed x.H w∧LeadsWell x.H w (false=true)):=‹_›
   exact hn ⟨this.1,lw.2 this.2⟩
  ·refine r_nx () (fun j v hj hq=>?_)
   by_cases e:j=i
   ·subst e;rw[gw]at hq;cases hq
    have hfl:Formed x.H w∧LeadsWell x.H w (false=true):=‹_›
    exact⟨hfl.1,lw.1 hfl.2⟩
   ·exact hv j v (by omega) hq
 repeat' (first
  |(refine k_L ?_;first|refine a_p rfl ?_|(refine k_l ?_;refine g_l rfl ?_))
  |refine a_n ?_
  |(refine k_V ?_;first|refine v_seq ?_|refine v_reg ?_)
  |refine s_n ?_)
 refine g_range x.xs.length (fun _:Unit=>[(0,.v (ptr a)),(28,.v (.slice x.cd.a x.xs.length x.cd.cap))]) (fun _=>[ro m]) (fun i _=>∀(j:Nat) c,j<i→x.H.cells[j]?=some c→OK4 x.H j c) () (fun j c hj=>by omega) (fun i _ hi hv=>?_) (fun _ hv=>?_)
 ·obtain⟨y,gy,gc⟩:=HX.at hi
  have hbp:y.c.pairs.length≤140737488355328:=by obtain⟨b,l,s⟩:=h;exact(kn_t (kn_t (kn_h (kb_cp gy))):Kn (hp a x) _).out b s
  have hgc:x.H.getC (i:Int)=y.c:=by unfold Heap.getC;rw[List.getD_eq_getElem?_getD];show(x.H.cells[i]?).getD _=_;rw[gc];rfl
  refine v_seq ?_
  repeat' (first
   |(refine k_L ?_;first|refine a_p rfl ?_|(refine k_i ?_;refine g_i rfl rfl ?_)|(refine k_ls ?_;refine g_ls rfl ?_)|(refine k_st ?_;refine g_sw rfl rfl rfl rfl (Nat.le_of_ble_eq_true rfl) ?_)|(refine k_al ?_;refine a_al ?_))
   |refine a_n ?_
   |(refine k_V ?_;refine v_reg ?_)
   |refine s_n ?_
   |refine sk_zero ?_
   |refine sk_succ ?_
   |refine wk_nil ?_
   |refine wk_cons ?_)
  refine v_seq ?_
  repeat' (first
   |(refine k_L ?_;first|refine a_p rfl ?_|(refine k_c ?_;refine a_cq rfl (fun m hm=>l1doomed_q (i:=i) (has_g h hm) (by omega) (by omega)) ?_))
   |refine a_n ?_
   |(refine k_V ?_;refine v_reg ?_)
   |refine s_n ?_)
  refine g_cut (fun _:Unit=>[(0,.v (ptr a)),(5,.v (.int .i64 i)),(6,.box (csw y)),(7,.v (.bool (decide (Doomed x.H i)))),(28,.v (.slice x.cd.a x.xs.length x.cd.cap)),(29,.v (.int .i64 x.xs.length)),(30,.v (.int .i64 i))]) (fun _=>[ro m]) (fun _=>Doomed x.H i→¬Root y.c) ?_ (fun _ hdr=>?_)
  ·repeat' (first
    |(refine k_L ?_;first|refine a_p rfl ?_|(refine k_g ?_;first|refine a_gy rfl rfl ?_|refine a_gn rfl rfl ?_|refine a_gu rfl ?_|(refine a_gd rfl (fun hb=>?_) (fun hb=>?_)<;>try(exfalso;omega))))
    |refine a_n ?_
    |(refine k_V ?_;first|refine v_rv ?_|refine v_seq ?_|refine v_reg ?_|refine v_skip ?_|refine v_ct rfl ?_|refine v_cf rfl ?_|(refine v_cd rfl (fun hb=>?_) (fun hb=>?_)<;>try(exfalso;omega)))
    |refine s_n ?_
    |refine s_r ?_
    |refine r_rt ?_)
   all_goals first
    |exact q_F fun h4=>h4.roots i _ gc ‹_› ⟨hgc▸‹Doomed x.H i›.2.1,.inl ‹_›⟩
    |exact q_F fun h4=>h4.roots i _ gc ‹_› ⟨hgc▸‹Doomed x.H i›.2.1,.inr ‹_›⟩
    |exact j_i () (fun r1 r2=>absurd r1 ‹_›)
    |exact j_i () (fun r1 r2=>r2.2.elim ‹_› ‹_›)
  by_cases hD:Doomed x.H i
  ·repeat' (first
    |(refine k_L ?_;refine a_p rfl ?_)
    |refine a_n ?_
    |(refine k_V ?_;first|refine v_seq ?_|refine v_reg ?_)
    |refine s_n ?_)
   refine g_range y.c.pairs.length (fun _:Unit=>[(0,.v (ptr a)),(5,.v (.int .i64 i)),(7,.v (.bool (decide (Doomed x.H i)))),(28,.v (.slice x.cd.a x.xs.length x.cd.cap)),(29,.v (.int .i64 x.xs.length)),(30,.v (.int .i64 i)),(50,.v (.slice y.d.a y.c.pairs.length y.d.cap))]) (fun _=>[ro m]) (fun k _=>∀(j:Nat) p,j<k→y.c.pairs[j]?=some p→Formed x.H p.key∧Formed x.H p.val) () (fun j c hj=>by omega) (fun k _ hk hv=>?_) (fun _ hw=>?_)
   ·obtain⟨p,gp⟩:∃p,y.c.pairs[k]?=some p:=⟨_,List.getElem?_eq_getElem (by omega)⟩
    rw[decide_eq_true hD]
    repeat' (first
     |(refine k_L ?_;first|refine a_p rfl ?_|(refine k_g ?_;first|refine a_gy rfl rfl ?_|refine a_gn rfl rfl ?_|(refine a_gnd rfl (fun hb=>?_) (fun hb=>?_)<;>try(exfalso;omega)))|(refine k_l ?_;refine g_l rfl ?_)|(refine k_i ?_;refine g_i rfl rfl ?_)|(refine k_ls ?_;refine g_ls rfl ?_)|(refine k_st ?_;refine g_sw rfl rfl rfl rfl (Nat.le_of_ble_eq_true rfl) ?_)|(refine k_al ?_;refine a_al ?_)|(refine k_q ?_;first|refine a_q rfl (fun m hm=>l1formed_q (H:=x.H) (w:=p.key) hnc) ?_|refine a_q rfl (fun m hm=>l1formed_q (H:=x.H) (w:=p.val) hnc) ?_))
     |refine a_n ?_
     |(refine k_V ?_;first|refine v_rv ?_|refine v_seq ?_|refine v_reg ?_|refine v_dreg ?_|refine v_exit ?_|refine v_skip ?_|refine v_ct rfl ?_|(refine v_cnd rfl (fun hb=>?_) (fun hb=>?_)<;>try(exfalso;omega)))
     |refine s_r ?_
     |refine s_e ?_
     |refine r_rt ?_
     |refine sk_zero ?_
     |refine sk_succ ?_
     |refine wk_nil ?_
     |refine wk_cons ?_)
    ·exact q_F fun h4=>‹¬Formed x.H p.key› (h4.pairs i _ gc k p gp).1
    ·exact q_F fun h4=>‹¬Formed x.H p.val› (h4.pairs i _ gc k p gp).2.1
    ·refine r_ct () (fun j q hj hq=>?_)
     by_cases e:j=k
     ·subst e;rw[gp]at hq;cases hq;exact⟨‹_›,‹_›⟩
     ·exact hv j q (by omega) hq
   ·repeat' (first
     |(refine k_L ?_;first|(refine k_ad ?_;refine g_ad rfl rfl ?_)|(refine k_su ?_;refine g_su rfl rfl ?_)|(refine k_ml ?_;refine g_ml rfl rfl ?_)|refine a_p rfl ?_|(refine k_g ?_;first|refine a_gy rfl rfl ?_|refine a_gn rfl rfl ?_|refine a_gu rfl ?_|(refine a_gd rfl (fun hb=>?_) (fun hb=>?_)<;>try(exfalso;omega))|(refine a_ge rfl (fun hb=>?_) (fun hb=>?_)<;>try(exfalso;omega))|(refine a_gne rfl (fun hb=>?_) (fun hb=>?_)<;>try(exfalso;omega))|(refine a_gnd rfl (fun hb=>?_) (fun hb=>?_)<;>try(exfalso;omega)))|(refine k_l ?_;refine g_l rfl ?_)|(refine k_i ?_;refine g_i rfl rfl ?_)|(refine k_ls ?_;refine g_ls rfl ?_)|(refine k_st ?_;first|refine g_st rfl rfl rfl rfl ?_|refine g_sw rfl rfl rfl rfl (Nat.le_of_ble_eq_true rfl) ?_)|(refine k_al ?_;refine a_al ?_)|(refine k_bx ?_;refine a_bx rfl rfl ?_)|(refine k_bl ?_;refine a_bl rfl ?_)|(refine k_p ?_;first|(refine a_pd rfl (fun hb=>?_) (fun hb=>?_)<;>try(exfalso;omega))|(refine a_pe rfl (fun hb=>?_) (fun hb=>?_)<;>try(exfalso;omega))|(refine a_pne rfl (fun hb=>?_) (fun hb=>?_)<;>try(exfalso;omega))|(refine a_pnd rfl (fun hb=>?_) (fun hb=>?_)<;>try(exfalso;omega))))
     |refine a_n ?_
     |(refine k_V ?_;first|refine v_rv ?_|refine v_seq ?_|refine v_reg ?_|refine v_dreg ?_|refine v_zreg ?_|refine v_bs ?_|refine v_br ?_|refine v_bd ?_|refine v_bc ?_|refine v_bk ?_|refine v_bb ?_|refine v_ret ?_|refine v_exit ?_|refine v_skip ?_|refine v_ct rfl ?_|refine v_cf rfl ?_|(refine v_cd rfl (fun hb=>?_) (fun hb=>?_)<;>try(exfalso;omega))|(refine v_ce rfl (fun hb=>?_) (fun hb=>?_)<;>try(exfalso;omega))|(refine v_cn rfl (fun hb=>?_) (fun hb=>?_)<;>try(exfalso;omega))|(refine v_cnd rfl (fun hb=>?_) (fun hb=>?_)<;>try(exfalso;omega)))
     |refine s_n ?_
     |refine s_r ?_
     |refine s_e ?_
     |refine b_n ?_
     |refine b_r ?_
     |refine b_e ?_
     |refine b_o rfl ?_
     |refine r_rt ?_
     |refine r_bk rfl ?_
     |refine r_ex rfl rfl ?_
     |refine sk_zero ?_
     |refine sk_succ ?_
     |refine wk_nil ?_
     |refine wk_cons ?_)
    refine r_nx () (fun j c hj hc=>?_)
    by_cases e:j=i
    ·subst e;rw[gc]at hc;cases hc
     exact⟨hdr,fun k p gp=>⟨(hw k p (List.getElem?_eq_some_iff.1 gp).1 gp).1,(hw k p (List.getElem?_eq_some_iff.1 gp).1 gp).2,fun hn=>absurd hD hn⟩⟩
    ·exact hv j c (by omega) hc
  ·repeat' (first
    |(refine k_L ?_;refine a_p rfl ?_)
    |refine a_n ?_
    |(refine k_V ?_;first|refine v_seq ?_|refine v_reg ?_)
    |refine s_n ?_)
   refine g_range y.c.pairs.length (fun _:Unit=>[(0,.v (ptr a)),(5,.v (.int .i64 i)),(7,.v (.bool (decide (Doomed x.H i)))),(28,.v (.slice x.cd.a x.xs.length x.cd.cap)),(29,.v (.int .i64 x.xs.length)),(30,.v (.int .i64 i)),(50,.v (.slice y.d.a y.c.pairs.length y.d.cap))]) (fun _=>[ro m]) (fun k _=>∀(j:Nat) p,j<k→y.c.pairs[j]?=some p→(Formed x.H p.key∧LeadsWell x.H p.key (¬Mended x.H i j))∧(Formed x.H p.val∧LeadsWell x.H p.val (¬Mended x.H i j))) () (fun j c hj=>by omega) (fun k _ hk hv=>?_) (fun _ hw=>?_)
   ·obtain⟨p,gp⟩:∃p,y.c.pairs[k]?=some p:=⟨_,List.getElem?_eq_getElem (by omega)⟩
    rw[decide_eq_false hD]
    have lw:=fun w=>leadsWell_b (H:=x.H) (w:=w) (b:= !decide (Mended x.H i k)) (p:=¬Mended x.H i k) (by simp)
    repeat' (first
     |(refine k_L ?_;first|refine a_p rfl ?_|(refine k_g ?_;first|refine a_gy rfl rfl ?_|refine a_gn rfl rfl ?_|(refine a_gnd rfl (fun hb=>?_) (fun hb=>?_)<;>try(exfalso;omega)))|(refine k_i ?_;refine g_i rfl rfl ?_)|(refine k_ls ?_;refine g_ls rfl ?_)|(refine k_st ?_;refine g_sw rfl rfl rfl rfl (Nat.le_of_ble_eq_true rfl) ?_)|(refine k_al ?_;refine a_al ?_)|(refine k_c ?_;first|refine a_cq rfl (fun m hm=>l1mended_q (i:=i) (k:=k) (has_g h hm)) ?_|refine a_cq rfl (fun m hm=>l1leads_q (w:=p.key) (has_g h hm)) ?_|refine a_cq rfl (fun m hm=>l1leads_q (w:=p.val) (has_g h hm)) ?_))
     |refine a_n ?_
     |(refine k_V ?_;first|refine v_rv ?_|refine v_seq ?_|refine v_reg ?_|refine v_skip ?_|refine v_ct rfl ?_|refine v_cf rfl ?_|(refine v_cnd rfl (fun hb=>?_) (fun hb=>?_)<;>try(exfalso;omega)))
     |refine s_r ?_
     |refine r_rt ?_
     |refine sk_zero ?_
     |refine sk_succ ?_
     |refine wk_nil ?_
     |refine wk_cons ?_)
    ·refine q_F fun h4=>?_
     have h5:=h4.pairs i _ gc k p gp
     have hn:¬(Formed x.H p.key∧LeadsWell x.H p.key ((!decide (Mended x.H i k))=true)):=‹_›
     exact hn ⟨h5.1,(lw p.key).2 (h5.2.2 hD).1⟩
    ·refine q_F fun h4=>?_
     have h5:=h4.pairs i _ gc k p gp
     have hn:¬(Formed x.H p.val∧LeadsWell x.H p.val ((!decide (Mended x.H i k))=true)):=‹_›
     exact hn ⟨h5.2.1,(lw p.val).2 (h5.2.2 hD).2⟩
    ·refine r_nx () (fun j q hj hq=>?_)
     by_cases e:j=k
     ·subst e;rw[gp]at hq;cases hq
      have c1:Formed x.H p.key∧LeadsWell x.H p.key ((!decide (Mended x.H i j))=true):=‹_›
      have c2:Formed x.H p.val∧LeadsWell x.H p.val ((!decide (Mended x.H i j))=true):=‹_›
      exact⟨⟨c1.1,(lw p.key).1 c1.2⟩,⟨c2.1,(lw p.val).1 c2.2⟩⟩
     ·exact hv j q (by omega) hq
   ·repeat' (first
     |(refine k_L ?_;first|(refine k_ad ?_;refine g_ad rfl rfl ?_)|(refine k_su ?_;refine g_su rfl rfl ?_)|(refine k_ml ?_;refine g_ml rfl rfl ?_)|refine a_p rfl ?_|(refine k_g ?_;first|refine a_gy rfl rfl ?_|refine a_gn rfl rfl ?_|refine a_gu rfl ?_|(refine a_gd rfl (fun hb=>?_) (fun hb=>?_)<;>try(exfalso;omega))|(refine a_ge rfl (fun hb=>?_) (fun hb=>?_)<;>try(exfalso;omega))|(refine a_gne rfl (fun hb=>?_) (fun hb=>?_)<;>try(exfalso;omega))|(refine a_gnd rfl (fun hb=>?_) (fun hb=>?_)<;>try(exfalso;omega)))|(refine k_l ?_;refine g_l rfl ?_)|(refine k_i ?_;refine g_i rfl rfl ?_)|(refine k_ls ?_;refine g_ls rfl ?_)|(refine k_st ?_;first|refine g_st rfl rfl rfl rfl ?_|refine g_sw rfl rfl rfl rfl (Nat.le_of_ble_eq_true rfl) ?_)|(refine k_al ?_;refine a_al ?_)|(refine k_bx ?_;refine a_bx rfl rfl ?_)|(refine k_bl ?_;refine a_bl rfl ?_)|(refine k_p ?_;first|(refine a_pd rfl (fun hb=>?_) (fun hb=>?_)<;>try(exfalso;omega))|(refine a_pe rfl (fun hb=>?_) (fun hb=>?_)<;>try(exfalso;omega))|(refine a_pne rfl (fun hb=>?_) (fun hb=>?_)<;>try(exfalso;omega))|(refine a_pnd rfl (fun hb=>?_) (fun hb=>?_)<;>try(exfalso;omega))))
     |refine a_n ?_
     |(refine k_V ?_;first|refine v_rv ?_|refine v_seq ?_|refine v_reg ?_|refine v_dreg ?_|refine v_zreg ?_|refine v_bs ?_|refine v_br ?_|refine v_bd ?_|refine v_bc ?_|refine v_bk ?_|refine v_bb ?_|refine v_ret ?_|refine v_exit ?_|refine v_skip ?_|refine v_ct rfl ?_|refine v_cf rfl ?_|(refine v_cd rfl (fun hb=>?_) (fun hb=>?_)<;>try(exfalso;omega))|(refine v_ce rfl (fun hb=>?_) (fun hb=>?_)<;>try(exfalso;omega))|(refine v_cn rfl (fun hb=>?_) (fun hb=>?_)<;>try(exfalso;omega))|(refine v_cnd rfl (fun hb=>?_) (fun hb=>?_)<;>try(exfalso;omega)))
     |refine s_n ?_
     |refine s_r ?_
     |refine s_e ?_
     |refine b_n ?_
     |refine b_r ?_
     |refine b_e ?_
     |refine b_o rfl ?_
     |refine r_rt ?_
     |refine r_bk rfl ?_
     |refine r_ex rfl rfl ?_
     |refine sk_zero ?_
     |refine sk_succ ?_
     |refine wk_nil ?_
     |refine wk_cons ?_)
    refine r_nx () (fun j c hj hc=>?_)
    by_cases e:j=i
    ·subst e;rw[gc]at hc;cases hc
     exact⟨hdr,fun k p gp=>let w:=hw k p (List.getElem?_eq_some_iff.1 gp).1 gp;⟨w.1.1,w.2.1,fun _=>⟨w.1.2,w.2.2⟩⟩⟩
    ·exact hv j c (by omega) hc
 ·repeat' (first
   |refine a_n ?_
   |(refine k_V ?_;refine v_rv ?_))
  refine q_T ⟨fun w hw=>?_,fun i c hc=>(hv i c (by have:=(List.getElem?_eq_some_iff.1 hc).1;omega) hc).1,fun i c hc=>(hv i c (by have:=(List.getElem?_eq_some_iff.1 hc).1;omega) hc).2⟩
  obtain⟨i,hi⟩:=List.getElem?_of_mem hw
  exact hr i w (List.getElem?_eq_some_iff.1 hi).1 hi
def cnt(i:Int):List Int→Nat
 |[]=>0
 |g::r=>(if g=i then 1 else 0)+cnt i r
theorem cnt_app(i:Int):∀(l:List Int) (g:Int),cnt i (l++[g])=cnt i l+(if g=i then 1 else 0)
 |[],g=>by simp[cnt]
 |x::r,g=>by simp only[List.cons_append,cnt,cnt_app i r g];omega
theorem cnt_zero{i:Int}:∀{l:List Int},cnt i l=0↔i∉l
 |[]=>by simp[cnt]
 |x::r=>by
  simp only[cnt,List.mem_cons,not_or]
  by_cases h:x=i
  ·simp[h]
  ·have:=cnt_zero (i:=i) (l:=r)
   simp only[h,if_false,Nat.zero_add,this]
   exact⟨fun hh=>⟨fun e=>h e.symm,hh⟩,fun hh=>hh.2⟩
theorem cnt_nodup:∀{l:List Int},l.Nodup↔∀i,cnt i l≤1
 |[]=>by simp[cnt]
 |x::r=>by
  rw[List.nodup_cons,cnt_nodup (l:=r)]
  simp only[cnt]
  constructor
  ·rintro⟨h1,h2⟩ i
   by_cases h:x=i
   ·subst h
    have:=cnt_zero.2 h1
    simp[this]
   ·simp only[h,if_false];have:=h2 i;omega
  ·intro h
   refine⟨cnt_zero.1 ?_,fun i=>?_⟩
   ·have:=h x;simp only[if_true]at this;omega
   ·have:=h i;omega
def OK5(H:Heap)(j:Nat)(c:Cell):Prop:=(c.color=1→cnt j H.gray=1)∧(c.color≠1→cnt j H.gray=0)∧(c.color=2→¬Marking H→H.phase=3∧H.hand≤j)
theorem col_iff{H:Heap}(h2:R2 H):R5 H↔((¬Marking H→H.gray=[])∧(∀(j:Nat) c,H.cells[j]?=some c→OK5 H j c)∧∀g,g∈H.gray→0≤g∧g<H.cells.length):=by
 constructor
 ·intro h
  refine⟨fun hm=>(h.else_ hm).1,fun j c hc=>?_,fun g hg=>?_⟩
  ·have hgc:H.getC (j:Int)=c:=by unfold Heap.getC;rw[List.getD_eq_getElem?_getD];show(H.cells[j]?).getD _=_;rw[hc];rfl
   by_cases hm:Marking H
   ·obtain⟨m1,m2,m3⟩:=h.mark hm
    refine⟨fun hk=>?_,fun hk=>?_,fun _ hn=>absurd hm hn⟩
    ·have a1:=cnt_nodup.1 m1 j
     have a2:cnt j H.gray≠0:=fun e=>cnt_zero.1 e (m3 j c hc hk)
     omega
    ·refine cnt_zero.2 fun hg=>hk ?_
     have:=(m2 _ hg).2.2.2
     rw[hgc]at this;exact this
   ·obtain⟨m1,m2⟩:=h.else_ hm
    rw[OK5,m1]
    exact⟨fun hk=>absurd hk (m2 j c hc).1,fun _=>rfl,fun hk _=>(m2 j c hc).2 hk⟩
  ·by_cases hm:Marking H
   ·exact⟨((h.mark hm).2.1 g hg).1,((h.mark hm).2.1 g hg).2.1⟩
   ·rw[(h.else_ hm).1]at hg;cases hg
 ·rintro⟨g1,g2,g3⟩
  refine⟨fun hm=>⟨cnt_nodup.2 fun i=>?_,fun g hg=>?_,fun i c hc hk=>?_⟩,fun hm=>⟨g1 hm,fun i c hc=>?_⟩⟩
  ·by_cases hi:i∈H.gray
   ·obtain⟨i0,i1⟩:=g3 i hi
    obtain⟨c,hc⟩:∃c,H.cells[i.toNat]?=some c:=⟨_,List.getElem?_eq_getElem (by omega)⟩
    have h5:=g2 _ c hc
    unfold OK5 at h5
    rw[show((i.toNat:Nat):Int)=i by omega]at h5
    by_cases hk:c.color=1
    ·rw[h5.1 hk];exact Nat.le_refl _
    ·rw[h5.2.1 hk];omega
   ·rw[cnt_zero.2 hi];omega
  ·obtain⟨i0,i1⟩:=g3 g hg
   obtain⟨c,hc⟩:∃c,H.cells[g.toNat]?=some c:=⟨_,List.getElem?_eq_getElem (by omega)⟩
   have hgc:H.getC g=c:=by unfold Heap.getC;rw[List.getD_eq_getElem?_getD,hc];rfl
   have h5:=g2 _ c hc
   have hk:c.color=1:=by
    by_cases hk:c.color=1
    ·exact hk
    ·have:=h5.2.1 hk
     rw[show((g.toNat:Nat):Int)=g by omega]at this
     exact absurd hg (cnt_zero.1 this)
   refine⟨i0,i1,?_,by rw[hgc];exact hk⟩
   rw[hgc]
   rcases h2.each _ c hc with h|h|h
   ·have:=h.2.1.2.2.2.2.1;omega
   ·have:=h.2.1.2.2.2.2.1;omega
   ·exact h.1
  ·have:=(g2 i c hc).1 hk
   by_cases hi:(i:Int)∈H.gray
   ·exact hi
   ·rw[cnt_zero.2 hi]at this;omega
  ·have h5:=g2 i c hc
   refine⟨fun hk=>?_,fun hk=>h5.2.2 hk hm⟩
   have:=h5.1 hk
   rw[g1 hm]at this;simp[cnt]at this
theorem l1colors_q{m:Mem}{a:Nat}{x:HX}(h:Has m (hp a x))(h2:R2 x.H):Qt Tryz.prog 73 [ptr a] m (.bool (decide (R5 x.H))):=by
 have hb:=h.lens
 have hl:=x.len
 have hnc:(x.hdr.nc:Int)=x.xs.length:=rfl
 have hng:x.hdr.ng=x.gray.length:=rfl
 refine qt_of (fnA_of (fun h=>fn73 (by simp) h) ?_)
 refine v_seq ?_
 repeat' (first
  |(refine k_L ?_;refine a_p rfl ?_)
  |refine a_n ?_
  |(refine k_V ?_;refine v_reg ?_)
  |refine s_n ?_)
 refine g_cut (fun _:Unit=>[(0,.v (ptr a)),(3,.v (.bool (decide (Marking x.H))))]) (fun _=>[ro m]) (fun _=>True) ?_ (fun _ _=>?_)
 ·repeat' (first
   |(refine k_L ?_;first|refine a_p rfl ?_|(refine k_g ?_;first|refine a_gy rfl rfl ?_|refine a_gn rfl rfl ?_|(refine a_gd rfl (fun hb=>?_) (fun hb=>?_)<;>try(exfalso;omega)))|(refine k_l ?_;refine g_l rfl ?_))
   |refine a_n ?_
   |(refine k_V ?_;refine v_reg ?_)
   |refine s_n ?_)
  all_goals refine j_i () trivial (hl:=⟨rfl,?_,trivial⟩)
  all_goals (show SV.v (.bool _)=_;congr 1;refine bool_dec ?_;simp_all [Marking,HX.hdr,HX.H])
 refine g_cut (fun _:Unit=>[(0,.v (ptr a)),(3,.v (.bool (decide (Marking x.H))))]) (fun _=>[ro m]) (fun _=>¬Marking x.H→x.H.gray=[]) ?_ (fun _ hg0=>?_)
 ·repeat' (first
   |(refine k_L ?_;first|refine a_p rfl ?_|(refine k_g ?_;first|refine a_gy rfl rfl ?_|refine a_gn rfl rfl ?_|(refine a_gnd rfl (fun hb=>?_) (fun hb=>?_)<;>try(exfalso;omega)))|(refine k_l ?_;refine g_l rfl ?_))
   |refine a_n ?_
   |(refine k_V ?_;first|refine v_rv ?_|refine v_seq ?_|refine v_reg ?_|refine v_skip ?_|refine v_cf rfl ?_|(refine v_cd rfl (fun hb=>?_) (fun hb=>?_)<;>try(exfalso;omega)))
   |refine s_n ?_
   |refine s_r ?_)
  ·exact q_F fun h5=>by have:=(h5.else_ ‹_›).1;have e:x.hdr.ng=x.H.gray.length:=rfl;rw[this]at e;simp at e;omega
  all_goals refine j_i () (fun hm=>?_)
  ·exact List.eq_nil_of_length_eq_zero (by show x.gray.length=0;omega)
  ·exact absurd ‹Marking x.H› hm
 repeat' (first
  |(refine k_L ?_;first|refine a_p rfl ?_|(refine k_l ?_;refine g_l rfl ?_))
  |refine a_n ?_
  |(refine k_V ?_;first|refine v_seq ?_|refine v_reg ?_)
  |refine s_n ?_)
 refine g_range x.xs.length (fun _:Unit=>[(0,.v (ptr a)),(3,.v (.bool (decide (Marking x.H)))),(36,.v (.slice x.cd.a x.xs.length x.cd.cap))]) (fun _=>[ro m]) (fun i _=>∀(j:Nat) c,j<i→x.H.cells[j]?=some c→OK5 x.H j c) () (fun j c hj=>by omega) (fun i _ hi hv=>?_) (fun _ hv=>?_)
 ·obtain⟨y,gy,gc⟩:=HX.at hi
  have nx:OK5 x.H i y.c→∀(j:Nat) c,j<i+1→x.H.cells[j]?=some c→OK5 x.H j c:=by
   intro hp j c hj hc
   by_cases e:j=i
   ·subst e;rw[gc]at hc;cases hc;exact hp
   ·exact hv j c (by omega) hc
  repeat' (first
   |(refine k_L ?_;first|refine a_p rfl ?_|(refine k_l ?_;refine g_l rfl ?_)|(refine k_i ?_;refine g_i rfl rfl ?_)|(refine k_ls ?_;refine g_ls rfl ?_)|(refine k_st ?_;refine g_sw rfl rfl rfl rfl (Nat.le_of_ble_eq_true rfl) ?_)|(refine k_al ?_;refine a_al ?_))
   |refine a_n ?_
   |(refine k_V ?_;first|refine v_seq ?_|refine v_reg ?_)
   |refine s_n ?_
   |refine sk_zero ?_
   |refine sk_succ ?_
   |refine wk_nil ?_
   |refine wk_cons ?_)
  refine g_range x.gray.length (fun n:Nat=>[(0,.v (ptr a)),(3,.v (.bool (decide (Marking x.H)))),(4,.v (.int .i64 i)),(5,.box (csw y)),(6,.v (.int .i64 n)),(36,.v (.slice x.cd.a x.xs.length x.cd.cap)),(37,.v (.int .i64 x.xs.length)),(38,.v (.int .i64 i)),(46,.v (.slice x.gd.a x.gray.length x.gd.cap))]) (fun _=>[ro m]) (fun k n=>n≤k∧n=cnt i (x.gray.take k)) 0 ⟨by omega,rfl⟩ (fun k n hk hw=>?_) (fun n hw=>?_)
  ·obtain⟨hnk,hw⟩:=hw
   obtain⟨g,gg⟩:∃g,x.gray[k]?=some g:=⟨_,List.getElem?_eq_getElem hk⟩
   have htk:x.gray.take (k+1)=x.gray.take k++[g]:=by rw[List.take_add_one,gg];rfl
   repeat' (first
    |(refine k_L ?_;first|(refine k_ad ?_;refine g_ad rfl rfl ?_)|refine a_p rfl ?_|(refine k_l ?_;refine g_l rfl ?_)|(refine k_i ?_;refine g_i rfl rfl ?_))
    |refine a_n ?_
    |(refine k_V ?_;first|refine v_seq ?_|refine v_reg ?_|refine v_skip ?_|(refine v_cd rfl (fun hb=>?_) (fun hb=>?_)<;>try(exfalso;omega))))
   ·exact r_nx (n+1) ⟨by omega,by rw[htk,cnt_app,if_pos ‹_›,←hw]⟩
   ·exact r_nx n ⟨by omega,by rw[htk,cnt_app,if_neg ‹_›,←hw];rfl⟩
  ·obtain⟨_,hw⟩:=hw
   rw[List.take_length]at hw
   have hw':n=cnt (i:Int) x.H.gray:=hw
   have bad:¬OK5 x.H i y.c→¬R5 x.H:=fun hn h5=>hn (((col_iff h2).1 h5).2.1 i _ gc)
   repeat' (first
    |(refine k_L ?_;first|refine a_p rfl ?_|(refine k_g ?_;first|refine a_gy rfl rfl ?_|refine a_gn rfl rfl ?_|refine a_gu rfl ?_|(refine a_gd rfl (fun hb=>?_) (fun hb=>?_)<;>try(exfalso;omega))|(refine a_gne rfl (fun hb=>?_) (fun hb=>?_)<;>try(exfalso;omega))|(refine a_gnd rfl (fun hb=>?_) (fun hb=>?_)<;>try(exfalso;omega)))|(refine k_l ?_;refine g_l rfl ?_))
    |refine a_n ?_
    |(refine k_V ?_;first|refine v_rv ?_|refine v_seq ?_|refine v_reg ?_|refine v_skip ?_|refine v_ct rfl ?_|refine v_cf rfl ?_|(refine v_cd rfl (fun hb=>?_) (fun hb=>?_)<;>try(exfalso;omega)))
    |refine s_r ?_
    |refine r_rt ?_)
   ·exact q_F (bad fun h5=>by have:=h5.1 ‹_›;omega)
   ·exact r_nx () (nx ⟨fun _=>by omega,fun hk=>absurd ‹y.c.color=1› hk,fun hk=>absurd hk ‹_›⟩)
   ·exact q_F (bad fun h5=>by have:=h5.2.1 ‹_›;omega)
   ·exact q_F (bad fun h5=>absurd (h5.2.2 ‹_› ‹_›).1 ‹_›)
   ·exact q_F (bad fun h5=>absurd (h5.2.2 ‹_› ‹_›).2 (by show ¬x.hdr.hand≤_;omega))
   ·exact r_nx () (nx ⟨fun hk=>absurd hk ‹_›,fun hk=>by omega,fun _ _=>⟨‹_›,by show x.hdr.hand≤_;omega⟩⟩)
   ·exact r_nx () (nx ⟨fun hk=>absurd hk ‹_›,fun hk=>by omega,fun _ hn=>absurd ‹Marking x.H› hn⟩)
   ·exact r_nx () (nx ⟨fun hk=>absurd hk ‹_›,fun hk=>by omega,fun hk=>absurd hk ‹_›⟩)
 ·repeat' (first
   |(refine k_L ?_;first|refine a_p rfl ?_|(refine k_l ?_;refine g_l rfl ?_))
   |refine a_n ?_
   |(refine k_V ?_;first|refine v_seq ?_|refine v_reg ?_)
   |refine s_n ?_)
  refine g_range x.gray.length (fun _:Unit=>[(0,.v (ptr a)),(100,.v (.slice x.gd.a x.gray.length x.gd.cap))]) (fun _=>[ro m]) (fun k _=>∀(j:Nat) g,j<k→x.gray[j]?=some g→0≤g∧g<x.H.cells.length) () (fun j c hj=>by omega) (fun k _ hk hw=>?_) (fun _ hw=>?_)
  ·obtain⟨g,gg⟩:∃g,x.gray[k]?=some g:=⟨_,List.getElem?_eq_getElem hk⟩
   have hgm:=List.mem_of_getElem? gg
   repeat' (first
    |(refine k_L ?_;first|refine a_p rfl ?_|(refine k_g ?_;first|refine a_gy rfl rfl ?_|refine a_gn rfl rfl ?_|(refine a_gd rfl (fun hb=>?_) (fun hb=>?_)<;>try(exfalso;omega)))|(refine k_l ?_;refine g_l rfl ?_)|(refine k_i ?_;refine g_i rfl rfl ?_))
    |refine a_n ?_
    |(refine k_V ?_;first|refine v_rv ?_|refine v_seq ?_|refine v_reg ?_|refine v_skip ?_|refine v_ct rfl ?_|(refine v_cd rfl (fun hb=>?_) (fun hb=>?_)<;>try(exfalso;omega)))
    |refine s_r ?_
    |refine r_rt ?_)
   ·exact q_F fun h5=>by have:=(((col_iff h2).1 h5).2.2 g hgm).1;omega
   ·exact q_F fun h5=>by have:=(((col_iff h2).1 h5).2.2 g hgm).2;omega
   ·refine r_nx () (fun j u hj hu=>?_)
    by_cases e:j=k
    ·subst e;rw[gg]at hu;cases hu;omega
    ·exact hw j u (by omega) hu
  ·repeat' (first
    |refine a_n ?_
    |(refine k_V ?_;refine v_rv ?_))
   refine q_T ((col_iff h2).2 ⟨hg0,fun j c hc=>hv j c (by have:=(List.getElem?_eq_some_iff.1 hc).1;omega) hc,fun g hg=>?_⟩)
   obtain⟨k,hk⟩:=List.getElem?_of_mem hg
   exact hw k g (List.getElem?_eq_some_iff.1 hk).1 hk
theorem l1sizes_q{m:Mem}{a:Nat}{x:HX}(h:Has m (hp a x)):Qt Tryz.prog 69 [ptr a] m (.bool (decide (R1 x.H))):=by
 have hb:=h.lens
 refine qt_of (fnA_of (fun h=>fn69 (by simp) h) ?_)
 repeat' (first
  |(refine k_L ?_;first|(refine k_ml ?_;refine g_ml rfl rfl ?_)|refine a_p rfl ?_|(refine k_g ?_;first|refine a_gy rfl rfl ?_|refine a_gn rfl rfl ?_|(refine a_gd rfl (fun hb=>?_) (fun hb=>?_)<;>try(exfalso;omega))|(refine a_gne rfl (fun hb=>?_) (fun hb=>?_)<;>try(exfalso;omega))|(refine a_gnd rfl (fun hb=>?_) (fun hb=>?_)<;>try(exfalso;omega)))|(refine k_l ?_;refine g_l rfl ?_)|(refine k_q ?_;refine a_q rfl (fun m hm=>spec.l1inQ) ?_)|(refine k_c ?_;refine a_cq rfl (fun m hm=>spec.l1inQ) ?_))
  |refine a_n ?_
  |(refine k_V ?_;first|refine v_rv ?_|refine v_seq ?_|refine v_reg ?_|refine v_dreg ?_|refine v_ret ?_|refine v_skip ?_|refine v_ct rfl ?_|(refine v_cd rfl (fun hb=>?_) (fun hb=>?_)<;>try(exfalso;omega))|(refine v_cnd rfl (fun hb=>?_) (fun hb=>?_)<;>try(exfalso;omega)))
  |refine s_r ?_)
 all_goals refine q_B (fun _ _=>rfl) ?_
 all_goals (rw[R1_iff];(try simp only[decide_eq_true_eq]);simp only[HX.hdr,Hdr.s_room,Hdr.s_used,Hdr.s_born,Hdr.s_phase,Hdr.s_hand,Hdr.s_sub,Hdr.s_per,Hdr.s_start,Hdr.s_rounds,Hdr.s_forced,Hdr.s_rd,Hdr.s_cd,Hdr.s_gd,HX.H,List.length_map]at*)
 all_goals simp_all
 all_goals omega
theorem l1units_q{m:Mem}{a:Nat}{x:HX}(h:Has m (hp a x))(h1:R1 x.H)(h2:R2 x.H):Qt Tryz.prog 71 [ptr a] m (.int .i64 (unitsN x.H.cells)):=by
 have hc:=h1.cells
 have hr:=h1.room
 have hl:=x.len
 have hu:=unitsN_le (cs:=x.H.cells) (fun c=>h2.pl)
 refine qt_of (fnA_of (fun h=>fn71 (by simp) h) ?_)
 repeat' (first
  |(refine k_L ?_;first|refine a_p rfl ?_|(refine k_l ?_;refine g_l rfl ?_))
  |refine a_n ?_
  |(refine k_V ?_;first|refine v_seq ?_|refine v_reg ?_)
  |refine s_n ?_)
 refine g_range x.xs.length (fun n:Int=>[(3,.v (.int .i64 n)),(9,.v (.slice x.cd.a x.xs.length x.cd.cap))]) (fun _=>[ro m]) (fun i n=>n=unitsN (x.H.cells.take i)) 0 rfl (fun i n hi hn=>?_) (fun n hn=>?_)
 ·obtain⟨y,gy,gc⟩:=HX.at hi
  have hu1:=hu i
  have hu2:=hu (i+1)
  have hu3:=unitsN_nn (x.H.cells.take i)
  have ht:=unitsN_take gc
  have hp:=h2.pl (List.mem_of_getElem? gc)
  unfold Cell.units at ht
  repeat' (first
   |(refine k_L ?_;first|(refine k_ad ?_;refine g_ad rfl rfl ?_)|refine a_p rfl ?_|(refine k_i ?_;refine g_i rfl rfl ?_)|(refine k_ls ?_;refine g_ls rfl ?_)|(refine k_st ?_;refine g_sw rfl rfl rfl rfl (Nat.le_of_ble_eq_true rfl) ?_)|(refine k_al ?_;refine a_al ?_))
   |refine a_n ?_
   |(refine k_V ?_;first|refine v_seq ?_|refine v_reg ?_|refine v_skip ?_|(refine v_cd rfl (fun hb=>?_) (fun hb=>?_)<;>try(exfalso;omega)))
   |refine sk_zero ?_
   |refine sk_succ ?_
   |refine wk_nil ?_
   |refine wk_cons ?_)
  ·exact r_nx (n+(1+y.c.pairs.length)) (by rw[ht,hn,if_pos ‹_›])
  ·exact r_nx n (by rw[ht,hn,if_neg ‹_›];omega)
 ·rw[List.take_of_length_le (by omega)]at hn
  subst hn
  repeat' (first
   |(refine k_L ?_;refine a_p rfl ?_)
   |refine a_n ?_
   |(refine k_V ?_;first|refine v_seq ?_|refine v_reg ?_|refine v_ret ?_))
  exact fa_q (by simp) (fun _ _=>rfl) rfl
theorem l1closing_q{m:Mem}{a:Nat}{x:HX}(h:Has m (hp a x)):Qt Tryz.prog 76 [ptr a] m (.bool (decide (R8 x.H))):=by
 have hb:=h.lens
 have hl:=x.len
 refine qt_of (fnA_of (fun h=>fn76 (by simp) h) ?_)
 repeat' (first
  |(refine k_L ?_;first|refine a_p rfl ?_|(refine k_l ?_;refine g_l rfl ?_))
  |refine a_n ?_
  |(refine k_V ?_;first|refine v_seq ?_|refine v_reg ?_)
  |refine s_n ?_)
 refine g_range x.xs.length (fun _:Unit=>[(0,.v (ptr a)),(8,.v (.slice x.cd.a x.xs.length x.cd.cap))]) (fun _=>[ro m]) (fun i _=>∀(j:Nat) c,j<i→x.H.cells[j]?=some c→x.H.phase=6→x.H.hand≤j→c.state≠2) () (fun j c hj=>by omega) (fun i _ hi hv=>?_) (fun _ hv=>?_)
 ·obtain⟨y,gy,gc⟩:=HX.at hi
  have nx:(x.H.phase=6→x.H.hand≤i→y.c.state≠2)→∀(j:Nat) c,j<i+1→x.H.cells[j]?=some c→x.H.phase=6→x.H.hand≤j→c.state≠2:=by
   intro hp j c hj hc
   by_cases e:j=i
   ·subst e;rw[gc]at hc;cases hc;exact hp
   ·exact hv j c (by omega) hc
  repeat' (first
   |(refine k_L ?_;first|refine a_p rfl ?_|(refine k_g ?_;first|refine a_gy rfl rfl ?_|refine a_gn rfl rfl ?_|(refine a_gd rfl (fun hb=>?_) (fun hb=>?_)<;>try(exfalso;omega)))|(refine k_l ?_;refine g_l rfl ?_)|(refine k_i ?_;refine g_i rfl rfl ?_)|(refine k_ls ?_;refine g_ls rfl ?_)|(refine k_st ?_;refine g_sw rfl rfl rfl rfl (Nat.le_of_ble_eq_true rfl) ?_)|(refine k_al ?_;refine a_al ?_))
   |refine a_n ?_
   |(refine k_V ?_;first|refine v_rv ?_|refine v_seq ?_|refine v_reg ?_|refine v_skip ?_|refine v_cf rfl ?_|(refine v_cd rfl (fun hb=>?_) (fun hb=>?_)<;>try(exfalso;omega)))
   |refine s_r ?_
   |refine r_rt ?_
   |refine sk_zero ?_
   |refine sk_succ ?_
   |refine wk_nil ?_
   |refine wk_cons ?_)
  ·exact q_F fun h8=>absurd ‹y.c.state=2› (h8 ‹_› i _ gc (by show x.hdr.hand≤_;omega))
  all_goals refine r_nx () (nx fun p1 p2=>?_)
  all_goals first|exact absurd p1 ‹_›|assumption|(exfalso;have p3:x.hdr.hand≤(i:Int):=p2;omega)
 ·repeat' (first
   |refine a_n ?_
   |(refine k_V ?_;refine v_rv ?_))
  exact q_T fun h6 i c hc hh=>hv i c (by have:=(List.getElem?_eq_some_iff.1 hc).1;omega) hc h6 hh
theorem l1hands_q{m:Mem}{a:Nat}{x:HX}(h:Has m (hp a x))(h1:R1 x.H)(h5:R5 x.H):Qt Tryz.prog 74 [ptr a] m (.bool (decide (R6 x.H))):=by
 have hb:=h.lens
 have hh:=h1.hand
 have hl:=x.len
 have hnc:(x.hdr.nc:Int)=x.xs.length:=rfl
 refine qt_of (fnA_of (fun h=>fn74 (by simp) h) ?_)
 by_cases hp2:x.phase=2
 ·have hm:=(h5.mark (.inr hp2)).2.1
  have hp2':x.hdr.phase=2:=hp2
  cases hg:x.gray with
  |nil=>
   have hgl:(x.hdr.ng:Int)=0:=by simp[HX.hdr,hg]
   have hg':x.H.gray=[]:=hg
   repeat' (first
    |(refine k_L ?_;first|refine a_p rfl ?_|(refine k_l ?_;refine g_l rfl ?_))
    |refine a_n ?_
    |(refine k_V ?_;first|refine v_rv ?_|refine v_seq ?_|refine v_reg ?_|refine v_bs ?_|refine v_ret ?_|refine v_skip ?_|(refine v_cd rfl (fun hb=>?_) (fun hb=>?_)<;>try(exfalso;omega))|(refine v_cn rfl (fun hb=>?_) (fun hb=>?_)<;>try(exfalso;omega)))
    |refine s_r ?_
    |refine b_r ?_)
   all_goals refine q_B (fun _ _=>rfl) ?_
   all_goals simp_all [R6,HX.hdr,Hdr.s_room,Hdr.s_used,Hdr.s_born,Hdr.s_phase,Hdr.s_hand,Hdr.s_sub,Hdr.s_per,Hdr.s_start,Hdr.s_rounds,Hdr.s_forced,Hdr.s_rd,Hdr.s_cd,Hdr.s_gd,HX.H]
  |cons g r=>
   have hgl1:(x.hdr.ng:Int)=r.length+1:=by simp[HX.hdr,hg]
   have hg':x.H.gray=g::r:=hg
   obtain⟨g0,g1,_⟩:=hm g (by rw[hg'];simp)
   obtain⟨y,gy,gc⟩:=HX.atI (x:=x) g0 (by omega)
   have g00:x.gray[(0:Int).toNat]?=some g:=by rw[hg];rfl
   repeat' (first
    |(refine k_L ?_;first|refine a_p rfl ?_|(refine k_l ?_;refine g_l rfl ?_)|(refine k_i ?_;refine g_i rfl rfl ?_))
    |refine a_n ?_
    |(refine k_V ?_;first|refine v_rv ?_|refine v_seq ?_|refine v_reg ?_|refine v_dreg ?_|refine v_bs ?_|refine v_ret ?_|refine v_skip ?_|(refine v_cd rfl (fun hb=>?_) (fun hb=>?_)<;>try(exfalso;omega))|(refine v_cn rfl (fun hb=>?_) (fun hb=>?_)<;>try(exfalso;omega)))
    |refine s_r ?_
    |refine b_r ?_)
   all_goals refine q_B (fun _ _=>rfl) ?_
   all_goals simp_all [R6,HX.hdr,Hdr.s_room,Hdr.s_used,Hdr.s_born,Hdr.s_phase,Hdr.s_hand,Hdr.s_sub,Hdr.s_per,Hdr.s_start,Hdr.s_rounds,Hdr.s_forced,Hdr.s_rd,Hdr.s_cd,Hdr.s_gd]
   all_goals simp_all [HX.H]
 ·have hp2':¬x.hdr.phase=2:=hp2
  have hh':0≤x.hdr.hand∧x.hdr.hand≤x.hdr.nc:=by rw[hl]at hh;exact hh
  by_cases hh5:x.hand<x.xs.length
  ·obtain⟨y,gy,gc⟩:=HX.atI (x:=x) hh.1 hh5
   have hh5':x.hdr.hand<x.hdr.nc:=hh5
   have gc':x.H.getC x.hand=y.c:=gc
   repeat' (first
    |(refine k_L ?_;first|refine a_p rfl ?_|(refine k_g ?_;first|refine a_gy rfl rfl ?_|refine a_gn rfl rfl ?_|(refine a_gd rfl (fun hb=>?_) (fun hb=>?_)<;>try(exfalso;omega)))|(refine k_l ?_;refine g_l rfl ?_)|(refine k_i ?_;refine g_i rfl rfl ?_)|(refine k_q ?_;refine a_q rfl (fun m hm=>l1used_q (i:=x.hand) (has_g h hm) hh.1 (by rw[hl];exact hh5)) ?_))
    |refine a_n ?_
    |(refine k_V ?_;first|refine v_seq ?_|refine v_reg ?_|refine v_dreg ?_|refine v_bs ?_|refine v_ret ?_|refine v_skip ?_|(refine v_cd rfl (fun hb=>?_) (fun hb=>?_)<;>try(exfalso;omega))|(refine v_cn rfl (fun hb=>?_) (fun hb=>?_)<;>try(exfalso;omega)))
    |refine s_r ?_
    |refine b_r ?_)
   all_goals refine q_B (fun _ _=>rfl) ?_
   all_goals (try simp only[decide_eq_true_eq])
   all_goals simp only[HX.hdr,Hdr.s_room,Hdr.s_used,Hdr.s_born,Hdr.s_phase,Hdr.s_hand,Hdr.s_sub,Hdr.s_per,Hdr.s_start,Hdr.s_rounds,Hdr.s_forced,Hdr.s_rd,Hdr.s_cd,Hdr.s_gd]at*
   all_goals unfold R6
   all_goals simp_all
   all_goals simp_all [HX.H]
  ·have hh5':¬(x.hdr.hand<x.hdr.nc):=hh5
   repeat' (first
    |(refine k_L ?_;first|refine a_p rfl ?_|(refine k_g ?_;first|refine a_gy rfl rfl ?_|refine a_gn rfl rfl ?_|(refine a_gd rfl (fun hb=>?_) (fun hb=>?_)<;>try(exfalso;omega)))|(refine k_l ?_;refine g_l rfl ?_))
    |refine a_n ?_
    |(refine k_V ?_;first|refine v_seq ?_|refine v_reg ?_|refine v_dreg ?_|refine v_bs ?_|refine v_ret ?_|refine v_skip ?_|refine v_ct rfl ?_|(refine v_cd rfl (fun hb=>?_) (fun hb=>?_)<;>try(exfalso;omega)))
    |refine s_r ?_
    |refine b_r ?_)
   all_goals refine q_B (fun _ _=>rfl) ?_
   all_goals (try simp only[decide_eq_true_eq])
   all_goals simp only[HX.hdr,Hdr.s_room,Hdr.s_used,Hdr.s_born,Hdr.s_phase,Hdr.s_hand,Hdr.s_sub,Hdr.s_per,Hdr.s_start,Hdr.s_rounds,Hdr.s_forced,Hdr.s_rd,Hdr.s_cd,Hdr.s_gd]at*
   all_goals unfold R6
   all_goals simp_all
   all_goals simp_all [HX.H]
theorem bool_d{p:Prop}{_:Decidable p}{b:Bool}(h:b=true↔p):Value.bool b=.bool (decide p):=by congr 1;rw[Bool.eq_iff_iff,h];simp
theorem scanned_le{H:Heap}(h1:R1 H)(h6:R6 H){i:Nat}{c:Cell}(hc:H.cells[i]?=some c):0≤scanned H i c∧scanned H i c≤c.pairs.length:=by
 unfold scanned
 split
 ·omega
 ·split
  ·rename_i hg
   unfold R6 at h6
   rw[if_neg (by rw[hg.1];decide),if_pos hg.1]at h6
   cases hgr:H.gray with
   |nil=>rw[hgr]at hg;simp at hg
   |cons g r=>
    rw[hgr]at hg h6
    have hgi:g=(i:Int):=by simpa using hg.2
    have h3:=h6.2
    simp only[hgi]at h3
    have hgc:H.getC (i:Int)=c:=by unfold Heap.getC;rw[List.getD_eq_getElem?_getD];show(H.cells[i]?).getD _=_;rw[hc];rfl
    rw[hgc]at h3
    exact⟨h1.sub.1,h3⟩
  ·omega
theorem l1marks_q{m:Mem}{a:Nat}{x:HX}(h:Has m (hp a x))(h1:R1 x.H)(h2:R2 x.H)(h4:R4 x.H)(h6:R6 x.H):Qt Tryz.prog 75 [ptr a] m (.bool (decide (R7 x.H))):=by
 have hb:=h.lens
 have hl:=x.len
 have hnc:(x.hdr.nc:Int)=x.xs.length:=rfl
 refine qt_of (fnA_of (fun h=>fn75 (by simp) h) ?_)
 refine v_seq ?_
 repeat' (first
  |(refine k_L ?_;refine a_p rfl ?_)
  |refine a_n ?_
  |(refine k_V ?_;refine v_reg ?_)
  |refine s_n ?_)
 refine g_cut (fun _:Unit=>[(0,.v (ptr a))]) (fun _=>[ro m]) (fun _=>Marking x.H) ?_ (fun _ hmk=>?_)
 ·repeat' (first
   |(refine k_L ?_;first|refine a_p rfl ?_|(refine k_g ?_;first|refine a_gy rfl rfl ?_|refine a_gn rfl rfl ?_|(refine a_gne rfl (fun hb=>?_) (fun hb=>?_)<;>try(exfalso;omega)))|(refine k_l ?_;refine g_l rfl ?_))
   |refine a_n ?_
   |(refine k_V ?_;first|refine v_rv ?_|refine v_seq ?_|refine v_reg ?_|refine v_skip ?_|refine v_cf rfl ?_|(refine v_cn rfl (fun hb=>?_) (fun hb=>?_)<;>try(exfalso;omega)))
   |refine s_n ?_
   |refine s_r ?_)
  ·exact q_T fun hk=>by rcases hk with hk|hk<;>contradiction
  ·exact j_i () (.inr ‹_›)
  ·exact j_i () (.inl ‹_›)
 have g0:(∃g,x.gray[(0:Int).toNat]?=some g∧x.H.gray.head?=some g)∨(x.hdr.ng:Int)=0∧x.H.gray.head?=none:=by
  show(∃g,x.gray[(0:Int).toNat]?=some g∧x.gray.head?=some g)∨(x.gray.length:Int)=0∧x.gray.head?=none
  cases x.gray with
  |nil=>exact .inr ⟨rfl,rfl⟩
  |cons g r=>exact .inl ⟨g,rfl,rfl⟩
 have hng:x.hdr.ng=x.gray.length:=rfl
 repeat' (first
  |(refine k_L ?_;first|refine a_p rfl ?_|(refine k_l ?_;refine g_l rfl ?_))
  |refine a_n ?_
  |(refine k_V ?_;first|refine v_seq ?_|refine v_reg ?_)
  |refine s_n ?_)
 refine g_range x.xs.length (fun _:Unit=>[(0,.v (ptr a)),(23,.v (.slice x.cd.a x.xs.length x.cd.cap))]) (fun _=>[ro m]) (fun i _=>∀(j:Nat) c,j<i→x.H.cells[j]?=some c→OK7 x.H j c) () (fun j c hj=>by omega) (fun i _ hi hv=>?_) (fun _ hv=>?_)
 ·obtain⟨y,gy,gc⟩:=HX.at hi
  have hbp:y.c.pairs.length≤140737488355328:=by obtain⟨b,l,s⟩:=h;exact(kn_t (kn_t (kn_h (kb_cp gy))):Kn (hp a x) _).out b s
  have hsc:(if y.c.color=2 then(y.c.pairs.length:Int)else if x.hdr.phase=2∧x.H.gray.head?=some (i:Int)then x.hdr.sub else 0)=scanned x.H i y.c:=rfl
  have hroot:(y.c.last=1∨y.c.last=2)→Root y.c:=fun hl=>⟨by
   rcases h2.each i _ gc with h|h|h
   ·have:=h.2.1.2.2.1;omega
   ·have:=h.2.1.2.2.1;omega
   ·exact h.1,hl⟩
  refine v_seq ?_
  repeat' (first
   |(refine k_L ?_;first|refine a_p rfl ?_|(refine k_i ?_;refine g_i rfl rfl ?_)|(refine k_ls ?_;refine g_ls rfl ?_)|(refine k_st ?_;refine g_sw rfl rfl rfl rfl (Nat.le_of_ble_eq_true rfl) ?_)|(refine k_al ?_;refine a_al ?_))
   |refine a_n ?_
   |(refine k_V ?_;refine v_reg ?_)
   |refine s_n ?_
   |refine sk_zero ?_
   |refine sk_succ ?_
   |refine wk_nil ?_
   |refine wk_cons ?_)
  refine g_cut (fun _:Unit=>[(0,.v (ptr a)),(3,.v (.int .i64 i)),(4,.box (csw y)),(5,.v (.bool (decide (y.c.last=1∨y.c.last=2)))),(23,.v (.slice x.cd.a x.xs.length x.cd.cap)),(24,.v (.int .i64 x.xs.length)),(25,.v (.int .i64 i))]) (fun _=>[ro m]) (fun _=>True) ?_ (fun _ _=>?_)
  ·repeat' (first
    |(refine k_L ?_;first|refine a_p rfl ?_|(refine k_g ?_;first|refine a_gy rfl rfl ?_|refine a_gn rfl rfl ?_|(refine a_gd rfl (fun hb=>?_) (fun hb=>?_)<;>try(exfalso;omega))))
    |refine a_n ?_
    |(refine k_V ?_;refine v_reg ?_)
    |refine s_n ?_)
   all_goals refine j_i () trivial (hl:=⟨rfl,rfl,rfl,?_,rfl,rfl,rfl,trivial⟩)
   all_goals (show SV.v (.bool _)=_;congr 1;refine bool_d ?_;simp_all)
  refine g_cut (fun _:Unit=>[(0,.v (ptr a)),(3,.v (.int .i64 i)),(4,.box (csw y)),(23,.v (.slice x.cd.a x.xs.length x.cd.cap)),(24,.v (.int .i64 x.xs.length)),(25,.v (.int .i64 i))]) (fun _=>[ro m]) (fun _=>Root y.c→y.c.color=0→x.hdr.phase≠2∧x.hdr.hand≤i) ?_ (fun _ hr=>?_)
  ·repeat' (first
    |(refine k_L ?_;first|refine a_p rfl ?_|(refine k_g ?_;first|refine a_gy rfl rfl ?_|refine a_gn rfl rfl ?_|refine a_gu rfl ?_|(refine a_gd rfl (fun hb=>?_) (fun hb=>?_)<;>try(exfalso;omega)))|(refine k_l ?_;refine g_l rfl ?_))
    |refine a_n ?_
    |(refine k_V ?_;first|refine v_rv ?_|refine v_seq ?_|refine v_reg ?_|refine v_skip ?_|refine v_ct rfl ?_|refine v_cf rfl ?_|(refine v_cd rfl (fun hb=>?_) (fun hb=>?_)<;>try(exfalso;omega)))
    |refine s_n ?_
    |refine s_r ?_
    |refine r_rt ?_)
   ·exact q_F fun h7=>absurd ‹x.hdr.phase=2› ((h7 ‹_› i _ gc).1 (hroot ‹_›) ‹_›).1
   ·exact q_F fun h7=>absurd ((h7 ‹_› i _ gc).1 (hroot ‹_›) ‹_›).2 (by show ¬x.hdr.hand≤_;omega)
   all_goals refine j_i () (fun r1 r2=>?_)
   ·exact⟨‹_›,by omega⟩
   all_goals first|exact absurd r1.2 ‹_›|exact absurd r2 ‹_›
  refine v_seq ?_
  repeat' (first
   |(refine k_L ?_;refine a_p rfl ?_)
   |refine a_n ?_
   |(refine k_V ?_;refine v_reg ?_)
   |refine s_n ?_)
  refine g_cut (fun n:Int=>[(0,.v (ptr a)),(4,.box (csw y)),(6,.v (.int .i64 n)),(23,.v (.slice x.cd.a x.xs.length x.cd.cap)),(24,.v (.int .i64 x.xs.length)),(25,.v (.int .i64 i))]) (fun _=>[ro m]) (fun n=>n=scanned x.H i y.c) ?_ (fun n hn=>?_)
  ·rw[←hsc]
   rcases g0 with⟨g,g0,g1⟩|⟨g0,g1⟩
   ·have hlg:=(List.getElem?_eq_some_iff.1 g0).1
    have hlg2:(0:Int)<x.hdr.ng:=by rw[hng];have:(0:Int).toNat=0:=rfl;omega
    repeat' (first
     |(refine k_L ?_;first|refine a_p rfl ?_|(refine k_g ?_;first|refine a_gy rfl rfl ?_|refine a_gn rfl rfl ?_|(refine a_gd rfl (fun hb=>?_) (fun hb=>?_)<;>try(exfalso;omega)))|(refine k_l ?_;refine g_l rfl ?_)|(refine k_i ?_;refine g_i rfl rfl ?_))
     |refine a_n ?_
     |(refine k_V ?_;first|refine v_seq ?_|refine v_reg ?_|refine v_skip ?_|refine v_cf rfl ?_|(refine v_cd rfl (fun hb=>?_) (fun hb=>?_)<;>try(exfalso;omega)))
     |refine s_n ?_)
    all_goals refine j_i _ ?_
    all_goals simp_all
   ·repeat' (first
     |(refine k_L ?_;first|refine a_p rfl ?_|(refine k_g ?_;first|refine a_gy rfl rfl ?_|refine a_gn rfl rfl ?_|(refine a_gd rfl (fun hb=>?_) (fun hb=>?_)<;>try(exfalso;omega)))|(refine k_l ?_;refine g_l rfl ?_))
     |refine a_n ?_
     |(refine k_V ?_;first|refine v_seq ?_|refine v_reg ?_|refine v_skip ?_|refine v_cf rfl ?_|(refine v_cd rfl (fun hb=>?_) (fun hb=>?_)<;>try(exfalso;omega)))
     |refine s_n ?_)
    all_goals refine j_i _ ?_
    all_goals simp_all
  have hn0:0≤n∧n≤y.c.pairs.length:=by rw[hn];exact scanned_le h1 h6 gc
  refine v_seq ?_
  repeat' (first
   |(refine k_L ?_;refine a_p rfl ?_)
   |refine a_n ?_
   |(refine k_V ?_;refine v_reg ?_)
   |refine s_n ?_)
  refine v_blk ?_
  refine v_loop (fun k:Nat=>[(0,.v (ptr a)),(4,.box (csw y)),(6,.v (.int .i64 n)),(7,.v (.int .i64 k)),(23,.v (.slice x.cd.a x.xs.length x.cd.cap)),(24,.v (.int .i64 x.xs.length)),(25,.v (.int .i64 i))]) (fun _=>[ro m])
   (fun f k=>f=n.toNat-k∧(k:Int)≤n∧∀(j:Nat) p,j<k→y.c.pairs[j]?=some p→¬White x.H p.key∧¬White x.H p.val) ⟨_,0,⟨rfl,rfl,rfl,rfl,rfl,rfl,rfl,trivial⟩,Ent.refl _,rfl,by omega,fun j c hj=>by omega⟩ ?_
  rintro f k ⟨rfl,hk,hw⟩
  by_cases hkt:(k:Int)<n
  ·obtain⟨p,gp⟩:∃p,y.c.pairs[k]?=some p:=⟨_,List.getElem?_eq_getElem (by omega)⟩
   obtain⟨f1,f2,_⟩:=h4.pairs i _ gc k p gp
   repeat' (first
    |(refine k_L ?_;first|(refine k_ad ?_;refine g_ad rfl rfl ?_)|refine a_p rfl ?_|(refine k_g ?_;first|refine a_gy rfl rfl ?_|refine a_gn rfl rfl ?_|(refine a_gd rfl (fun hb=>?_) (fun hb=>?_)<;>try(exfalso;omega)))|(refine k_i ?_;refine g_i rfl rfl ?_)|(refine k_ls ?_;refine g_ls rfl ?_)|(refine k_c ?_;first|refine a_cq rfl (fun m hm=>l1white_q (w:=p.key) (has_g h hm) f1) ?_|refine a_cq rfl (fun m hm=>l1white_q (w:=p.val) (has_g h hm) f2) ?_))
    |refine a_n ?_
    |(refine k_V ?_;first|refine v_rv ?_|refine v_seq ?_|refine v_reg ?_|refine v_bs ?_|refine v_skip ?_|refine v_ct rfl ?_|(refine v_cd rfl (fun hb=>?_) (fun hb=>?_)<;>try(exfalso;omega)))
    |refine s_n ?_
    |refine s_r ?_
    |refine b_r ?_
    |refine r_rt ?_)
   ·exact q_F fun h7=>((h7 hmk i _ gc).2 k p gp (by rw[←hn];omega)).1 ‹_›
   ·exact q_F fun h7=>((h7 hmk i _ gc).2 k p gp (by rw[←hn];omega)).2 ‹_›
   ·refine⟨_,k+1,?_,⟨rfl,rfl,rfl,rfl,rfl,rfl,rfl,trivial⟩,Ent.refl _,rfl,by omega,fun j q hj hq=>?_⟩
    ·omega
    ·by_cases e:j=k
     ·subst e;rw[gp]at hq;cases hq;exact⟨‹_›,‹_›⟩
     ·exact hw j q (by omega) hq
  ·repeat' (first
    |(refine k_L ?_;refine a_p rfl ?_)
    |refine a_n ?_
    |(refine k_V ?_;first|refine v_seq ?_|refine v_reg ?_|refine v_exit ?_|(refine v_cd rfl (fun hb=>?_) (fun hb=>?_)<;>try(exfalso;omega)))
    |refine s_e ?_
    |refine b_e ?_)
   refine r_nx () (fun j c hj hc=>?_)
   by_cases e:j=i
   ·subst e;rw[gc]at hc;cases hc
    exact⟨hr,fun k' p gp hk'=>hw k' p (by rw[←hn]at hk';omega) gp⟩
   ·exact hv j c (by omega) hc
 ·repeat' (first
   |refine a_n ?_
   |(refine k_V ?_;refine v_rv ?_))
  exact q_T fun hm i c hc=>hv i c (by have:=(List.getElem?_eq_some_iff.1 hc).1;omega) hc
theorem specHeapOk_q{m:Mem}{x:HX}(h:Has m x.body):Qt Tryz.prog 30 [x.v] m (.int .i64 (okH x.H)):=by
 refine qt_of (fnA_of (fun h=>fn30 (by simp) h) ?_)
 refine v_seq (v_reg (a_nwh x rfl (fun b=>?_)))
 have hs:∀m',star [hdA b x.hdr,ro m] m'→Has m' (hp b x):=fun m' s=>has_new h s pmt (F:=[])
 repeat' (first
  |(refine k_L ?_;refine a_p rfl ?_)
  |refine a_n ?_
  |refine s_n ?_)
 refine v_seq ?_
 repeat' (first
  |(refine k_L ?_;refine a_p rfl ?_)
  |refine a_n ?_
  |(refine k_V ?_;refine v_reg ?_)
  |refine s_n ?_)
 refine g_cut (fun _:Unit=>[(1,.v (ptr b)),(3,.v (ptr b))]) (fun _=>[hdA b x.hdr,ro m]) (fun _=>R1 x.H) ?_ (fun _ h1=>?_)
 ·repeat' (first
   |(refine k_L ?_;first|refine a_p rfl ?_|(refine k_c ?_;refine a_cq rfl (fun m hm=>l1sizes_q (hs m hm)) ?_))
   |refine a_n ?_
   |(refine k_V ?_;first|refine v_rv ?_|refine v_seq ?_|refine v_reg ?_|refine v_skip ?_|(refine v_cnd rfl (fun hb=>?_) (fun hb=>?_)<;>try(exfalso;omega)))
   |refine s_n ?_
   |refine s_r ?_)
  ·exact fa_q (by simp) (fun _ _=>rfl) (by unfold okH;simp_all)
  ·exact j_i () ‹_›
 refine g_cut (fun _:Unit=>[(1,.v (ptr b)),(3,.v (ptr b))]) (fun _=>[hdA b x.hdr,ro m]) (fun _=>R2 x.H) ?_ (fun _ h2=>?_)
 ·repeat' (first
   |(refine k_L ?_;first|refine a_p rfl ?_|(refine k_c ?_;refine a_cq rfl (fun m hm=>l1cells_q (hs m hm)) ?_))
   |refine a_n ?_
   |(refine k_V ?_;first|refine v_rv ?_|refine v_seq ?_|refine v_reg ?_|refine v_skip ?_|(refine v_cnd rfl (fun hb=>?_) (fun hb=>?_)<;>try(exfalso;omega)))
   |refine s_n ?_
   |refine s_r ?_)
  ·exact fa_q (by simp) (fun _ _=>rfl) (by unfold okH;simp_all)
  ·exact j_i () ‹_›
 refine g_cut (fun _:Unit=>[(1,.v (ptr b)),(3,.v (ptr b))]) (fun _=>[hdA b x.hdr,ro m]) (fun _=>R3 x.H) ?_ (fun _ h3=>?_)
 ·repeat' (first
   |(refine k_L ?_;first|refine a_p rfl ?_|(refine k_g ?_;first|refine a_gy rfl rfl ?_|refine a_gn rfl rfl ?_|(refine a_gne rfl (fun hb=>?_) (fun hb=>?_)<;>try(exfalso;omega)))|(refine k_l ?_;refine g_l rfl ?_)|(refine k_q ?_;refine a_q rfl (fun m hm=>l1units_q (hs m hm) h1 h2) ?_))
   |refine a_n ?_
   |(refine k_V ?_;first|refine v_rv ?_|refine v_seq ?_|refine v_dreg ?_|refine v_skip ?_|refine v_ct rfl ?_|(refine v_cd rfl (fun hb=>?_) (fun hb=>?_)<;>try(exfalso;omega)))
   |refine s_n ?_
   |refine s_r ?_)
  ·exact fa_q (by simp) (fun _ _=>rfl) (by
    have:¬R3 x.H:=fun h=>absurd h.1.symm ‹_›
    unfold okH;simp_all)
  ·exact fa_q (by simp) (fun _ _=>rfl) (by
    have:¬R3 x.H:=fun h=>by have:=h.2;have e:x.H.used=x.hdr.used:=rfl;have e2:x.H.room=x.hdr.room:=rfl;omega
    unfold okH;simp_all)
  ·exact j_i () ⟨Eq.symm ‹_›,by show x.hdr.used≤x.hdr.room;omega⟩
 refine g_cut (fun _:Unit=>[(1,.v (ptr b)),(3,.v (ptr b))]) (fun _=>[hdA b x.hdr,ro m]) (fun _=>R4 x.H) ?_ (fun _ h4=>?_)
 ·repeat' (first
   |(refine k_L ?_;first|refine a_p rfl ?_|(refine k_c ?_;refine a_cq rfl (fun m hm=>l1words_q (hs m hm)) ?_))
   |refine a_n ?_
   |(refine k_V ?_;first|refine v_rv ?_|refine v_seq ?_|refine v_reg ?_|refine v_skip ?_|(refine v_cnd rfl (fun hb=>?_) (fun hb=>?_)<;>try(exfalso;omega)))
   |refine s_n ?_
   |refine s_r ?_)
  ·exact fa_q (by simp) (fun _ _=>rfl) (by unfold okH;simp_all)
  ·exact j_i () ‹_›
 refine g_cut (fun _:Unit=>[(1,.v (ptr b)),(3,.v (ptr b))]) (fun _=>[hdA b x.hdr,ro m]) (fun _=>R5 x.H) ?_ (fun _ h5=>?_)
 ·repeat' (first
   |(refine k_L ?_;first|refine a_p rfl ?_|(refine k_c ?_;refine a_cq rfl (fun m hm=>l1colors_q (hs m hm) h2) ?_))
   |refine a_n ?_
   |(refine k_V ?_;first|refine v_rv ?_|refine v_seq ?_|refine v_reg ?_|refine v_skip ?_|(refine v_cnd rfl (fun hb=>?_) (fun hb=>?_)<;>try(exfalso;omega)))
   |refine s_n ?_
   |refine s_r ?_)
  ·exact fa_q (by simp) (fun _ _=>rfl) (by unfold okH;simp_all)
  ·exact j_i () ‹_›
 refine g_cut (fun _:Unit=>[(1,.v (ptr b)),(3,.v (ptr b))]) (fun _=>[hdA b x.hdr,ro m]) (fun _=>R6 x.H) ?_ (fun _ h6=>?_)
 ·repeat' (first
   |(refine k_L ?_;first|refine a_p rfl ?_|(refine k_c ?_;refine a_cq rfl (fun m hm=>l1hands_q (hs m hm) h1 h5) ?_))
   |refine a_n ?_
   |(refine k_V ?_;first|refine v_rv ?_|refine v_seq ?_|refine v_reg ?_|refine v_skip ?_|(refine v_cnd rfl (fun hb=>?_) (fun hb=>?_)<;>try(exfalso;omega)))
   |refine s_n ?_
   |refine s_r ?_)
  ·exact fa_q (by simp) (fun _ _=>rfl) (by unfold okH;simp_all)
  ·exact j_i () ‹_›
 refine g_cut (fun _:Unit=>[(1,.v (ptr b)),(3,.v (ptr b))]) (fun _=>[hdA b x.hdr,ro m]) (fun _=>R7 x.H) ?_ (fun _ h7=>?_)
 ·repeat' (first
   |(refine k_L ?_;first|refine a_p rfl ?_|(refine k_c ?_;refine a_cq rfl (fun m hm=>l1marks_q (hs m hm) h1 h2 h4 h6) ?_))
   |refine a_n ?_
   |(refine k_V ?_;first|refine v_rv ?_|refine v_seq ?_|refine v_reg ?_|refine v_skip ?_|(refine v_cnd rfl (fun hb=>?_) (fun hb=>?_)<;>try(exfalso;omega)))
   |refine s_n ?_
   |refine s_r ?_)
  ·exact fa_q (by simp) (fun _ _=>rfl) (by unfold okH;simp_all)
  ·exact j_i () ‹_›
 refine g_cut (fun _:Unit=>[(1,.v (ptr b)),(3,.v (ptr b))]) (fun _=>[hdA b x.hdr,ro m]) (fun _=>R8 x.H) ?_ (fun _ h8=>?_)
 ·repeat' (first
   |(refine k_L ?_;first|refine a_p rfl ?_|(refine k_c ?_;refine a_cq rfl (fun m hm=>l1closing_q (hs m hm)) ?_))
   |refine a_n ?_
   |(refine k_V ?_;first|refine v_rv ?_|refine v_seq ?_|refine v_reg ?_|refine v_skip ?_|(refine v_cnd rfl (fun hb=>?_) (fun hb=>?_)<;>try(exfalso;omega)))
   |refine s_n ?_
   |refine s_r ?_)
  ·exact fa_q (by simp) (fun _ _=>rfl) (by unfold okH;simp_all)
  ·exact j_i () ‹_›
 repeat' (first
  |refine a_n ?_
  |(refine k_V ?_;refine v_rv ?_))
 exact fa_q (by simp) (fun _ _=>rfl) (by rw[(okH_sound x.H).2 ⟨h1,h2,h3,h4,h5,h6,h7,h8⟩])
end Go.Proofs.YtcjmodomfilagaaGreat.E
namespace Go.Proofs.YtcjmodomfilagaaGreat.E
open Go
noncomputable def e8:Env:=⟨Tryz.prog,[],7,[]⟩
theorem r8:Tryz.f8.results.toList.mapM (trR Tryz.prog)=some [.tmp 2]:=by kernel_rfl
noncomputable def e7:Env:=⟨Tryz.prog,[],7,[]⟩
theorem r7:Tryz.f7.results.toList.mapM (trR Tryz.prog)=some [.tmp 2]:=by kernel_rfl
noncomputable def e121:Env:=⟨Tryz.prog,[7,9,31],33,[]⟩
abbrev q0(a0:Nat)(a1:Nat)(a2:Int):I:=⟨some a0,none,.bin .gtr (.tmp a1) (.const (.int .i64 a2))⟩
abbrev qI(a0:Nat)(a1:Nat)(a2:Nat):I:=⟨some a0,none,.mov (.const (.slice none a1 a2))⟩
abbrev qP(a0:Nat)(a1:Nat)(a2:Nat)(a3:Nat)(a4:Nat)(a5:Nat):I:=⟨some a0,none,.call a1 [.tmp a2,.tmp a3,.tmp a4,.tmp a5]⟩
abbrev qQ(a0:Nat)(a1:Nat)(a2:Nat):I:=⟨some a0,none,.ext (.tmp a1) a2⟩
abbrev qc(a0:Nat)(a1:Nat)(a2:Nat)(a3:Int)(a4:Nat)(a5:Nat):I:=⟨some a0,none,.app a1 a2 [.int .i64 a3] (.tmp a4) (.tmp a5)⟩
abbrev ql(a0:Nat)(a1:Nat)(a2:Nat)(a3:Int)(a4:Nat)(a5:Nat)(a6:Nat):I:=⟨some a0,none,.bslice true a1 a2 [.int .i64 a3] [(a4,a5,.tmp a6)]⟩
abbrev j8(a0:Nat)(a1:Nat)(a2:Int):I:=⟨some a0,none,.bin .and (.tmp a1) (.const (.int .i64 a2))⟩
noncomputable def c121:C:=
 .seq (.reg [zY 7 3,qI 8 0 0]) (.seq (.reg [z3 10 0,zA 11 3 7,zU 12 122 10 11,zt 9 0 0 0,z8 3 9 12]) (.seq (.seq (.reg [z4 13 0 9,z5 14 1 13,zj 15 14 2,z3 16 15,zN 17 16 1,zG 18 16 2 9,zK 19 16 1 18,qG 20 16 1 17 19,zK 21 16 1 20,zO 22 16 21]) (.cond (.tmp 22) (.seq (.reg [z3 23 2,z3 8 23]) .ret) .skip)) (.seq (.reg [z3 24 1,z4 25 2 9,z5 26 1 25,z9 27 1 24 26,⟨none,none,.store 1 (.tmp 27)
 (.const (.bool true))⟩]) (.seq (.reg [z3 28 2,z4 29 2 9,z5 30 1 29,ql 31 1 1 0 0 1 30,qc 32 1 8 0 28 31,z3 8 32]) .ret))))
theorem t121:Tryz.f121.body.bind (trC e121)=some c121:=by kernel_rfl
theorem r121:Tryz.f121.results.toList.mapM (trR Tryz.prog)=some [.tmp 8]:=by kernel_rfl
theorem fn121{args:List Value}{M:Mem}{post:Value→Mem→Prop}(hl:args.length≤33)(h:VC e121 c121 (fnQ [.tmp 8] post) (initS args 33) M):Fn Tryz.prog 121 args M post:=
 Fn.of' (E:=e121) Tryz.func121 t121 rfl r121 mixed hl h
noncomputable def e127:Env:=⟨Tryz.prog,[5,34],89,[(8,28)]⟩
noncomputable def c127:C:=
 .seq (.reg [qI 2 0 0]) (.seq (.reg [qI 3 0 0]) (.seq (.seq (.reg [z3 9 0,z6 10 9,z4 11 4 10,z5 12 1 11,zI 13 12,zC 14 0]) (.block 0 (.loop (.seq (.reg [zQ 15 14 13]) (.seq (.cond (.tmp 15) .skip (.exit 0)) (.seq (.block 1 (.seq (.reg [z3 16 14,z9 17 8 12 14,zA 18 8 17,zX 5 0 0 0 0 0 0 0 0 0,z3 4 16,z8 8 5 18]) (.seq (.seq (.reg [z4 19 0 5,z5 20 1 19,zj 21 20 1,z3 22 21,zG 23 22 3 5,zK 24 22
 1 23,zy 25 22 24 1,zN 26 22 25,zE 27 26 3 5,zD 28 26 1 27,q4 29 26 28 2,q9 30 22 26 29,zO 31 22 30]) (.cond (.tmp 31) (.exit 1) .skip)) (.seq (.reg [z3 32 3,z3 33 4,ql 34 1 1 0 0 1 33,qc 35 1 8 0 32 34,z3 3 35]) (.seq (.reg [z3 36 3,zI 37 36,ze 38 37 1,z3 6 38]) (.block 2 (.loop (.seq (.seq (.dreg 28 [z3 39 6,q0 40 39 0,z3 41 40,zF 42 41 0,zT 43 41 42,zE 44 41 4 43,zD 45 41 1 44,zF 46 41 3,zF
 47 41 6,⟨some 48,some (41,true),.bin .sub (.tmp 47) (.const (.int .i64 1))⟩,zn 49 41 1 46 48,zD 50 41 1 49,zn 51 41 8 45 50,zE 52 41 4 51,zD 53 41 1 52,zF 54 41 0,zT 55 41 54,zE 56 41 4 55,zD 57 41 1 56,zF 58 41 3,zF 59 41 6,zn 60 41 1 58 59,zD 61 41 1 60,zn 62 41 8 57 61,zE 63 41 4 62,zD 64 41 1 63,⟨some 65,some (41,true),.bin .gtr (.tmp 53) (.tmp 64)⟩,zL 66 41 65]) (.cond (.tmp 66) .skip (.exit
 2))) (.seq (.block 3 (.seq (.reg [z3 69 3,z3 70 6,ze 71 70 1,z9 72 1 69 71,z5 73 1 72,z3 7 73]) (.seq (.reg [z3 74 3,z3 75 6,z9 76 1 74 75,z5 77 1 76,z3 8 77]) (.seq (.reg [z3 78 3,z3 79 6,ze 80 79 1,z3 81 8,z9 82 1 78 80,z8 1 82 81]) (.reg [z3 83 3,z3 84 6,z3 85 7,z9 86 1 83 84,z8 1 86 85]))))) (.reg [z3 67 6,ze 68 67 1,z3 6 68])))))))))) (.reg [zP 87 14 1,z3 14 87]))))))) (.seq (.reg [z3
 88 3,z3 2 88]) .ret)))
theorem t127:Tryz.f127.body.bind (trC e127)=some c127:=by kernel_rfl
theorem r127:Tryz.f127.results.toList.mapM (trR Tryz.prog)=some [.tmp 2]:=by kernel_rfl
theorem fn127{args:List Value}{M:Mem}{post:Value→Mem→Prop}(hl:args.length≤89)(h:VC e127 c127 (fnQ [.tmp 2] post) (initS args 89) M):Fn Tryz.prog 127 args M post:=
 Fn.of' (E:=e127) Tryz.func127 t127 rfl r127 mixed hl h
noncomputable def e90:Env:=⟨Tryz.prog,[7,12],85,[(16,13)]⟩
noncomputable def c90:C:=
 .seq (.reg [qI 2 0 0,qI 3 0 0]) (.seq (.reg [z3 13 0,z6 14 13,z4 15 4 14,z5 16 1 15,zI 17 16,⟨some 18,none,.mkslice 1 1 [.bool false] (.tmp 17) (.tmp 17)⟩,z3 4 18]) (.seq (.reg [qI 5 0 0]) (.seq (.seq (.reg [z3 19 0,z6 20 19,z4 21 3 20,z5 22 1 21,zI 23 22,zC 24 0]) (.block 0 (.loop (.seq (.reg [zQ 25 24 23]) (.seq (.cond (.tmp 25) .skip (.exit 0)) (.seq (.block 1 (.seq (.reg [z9 26 3 22 24,
 zA 27 3 26,zt 7 0 0 0,z8 3 7 27]) (.reg [z3 28 0,z3 29 4,z3 30 5,zA 31 3 7,qP 32 121 28 29 30 31,z3 5 32]))) (.reg [zP 33 24 1,z3 24 33]))))))) (.seq (.seq (.reg [z3 34 0,zM 35 127 34,zI 36 35,zC 37 0]) (.block 2 (.loop (.seq (.reg [zQ 38 37 36]) (.seq (.cond (.tmp 38) .skip (.exit 2)) (.seq (.block 3 (.seq (.reg [z9 39 1 35 37,z5 40 1 39,z3 9 40]) (.reg [z3 41 0,z3 42 4,z3 43 5,z3 44 9,qJ
 45 0 0 0 0 1 2 2 1 44,qP 46 121 41 42 43 45,z3 5 46]))) (.reg [zP 47 37 1,z3 37 47]))))))) (.seq (.seq (.reg [zC 10 0]) (.block 4 (.loop (.seq (.seq (.reg [z3 48 10,z3 49 5,zI 50 49,zQ 51 48 50]) (.cond (.tmp 51) .skip (.exit 4))) (.seq (.block 5 (.seq (.dreg 13 [z3 54 0,z6 55 54,z4 56 4 55,z5 57 1 56,z3 58 5,z3 59 10,z9 60 1 58 59,z5 61 1 60,z9 62 8 57 61,z4 63 7 62,z5 64 1 63,zI 65 64,zC 66
 0]) (.block 6 (.loop (.seq (.reg [zQ 67 66 65]) (.seq (.cond (.tmp 67) .skip (.exit 6)) (.seq (.block 7 (.seq (.reg [z9 68 6 64 66,zA 69 6 68,q7 12 0 0 0 0 0 0,z8 6 12 69]) (.seq (.reg [z3 70 0,z3 71 4,z3 72 5,z4 73 0 12,zA 74 3 73,qP 75 121 70 71 72 74,z3 5 75]) (.reg [z3 76 0,z3 77 4,z3 78 5,z4 79 3 12,zA 80 3 79,qP 81 121 76 77 78 80,z3 5 81])))) (.reg [zP 82 66 1,z3 66 82])))))))) (.reg
 [z3 52 10,zP 53 52 1,z3 10 53])))))) (.seq (.reg [z3 83 4,z3 84 5,z3 2 83,z3 3 84]) .ret))))))
theorem t90:Tryz.f90.body.bind (trC e90)=some c90:=by kernel_rfl
theorem r90:Tryz.f90.results.toList.mapM (trR Tryz.prog)=some [.tmp 2,.tmp 3]:=by kernel_rfl
theorem fn90{args:List Value}{M:Mem}{post:Value→Mem→Prop}(hl:args.length≤85)(h:VC e90 c90 (fnQ [.tmp 2,.tmp 3] post) (initS args 85) M):Fn Tryz.prog 90 args M post:=
 Fn.of' (E:=e90) Tryz.func90 t90 rfl r90 mixed hl h
noncomputable def e77:Env:=⟨Tryz.prog,[6,8,11,13,14],123,[(20,11)]⟩
noncomputable def c77:C:=
 .seq (.reg [qI 2 0 0]) (.seq (.reg [z3 15 0,z6 16 15,z4 17 4 16,z5 18 1 17,zI 19 18,⟨some 20,none,.mkslice 1 1 [.bool false] (.tmp 19) (.tmp 19)⟩,z3 3 20]) (.seq (.reg [qI 4 0 0]) (.seq (.seq (.reg [z3 21 0,z6 22 21,z4 23 3 22,z5 24 1 23,zI 25 24,zC 26 0]) (.block 0 (.loop (.seq (.reg [zQ 27 26 25]) (.seq (.cond (.tmp 27) .skip (.exit 0)) (.seq (.block 1 (.seq (.reg [z9 28 3 24 26,zA 29 3
 28,zt 6 0 0 0,z8 3 6 29]) (.reg [z3 30 0,z3 31 3,z3 32 4,zA 33 3 6,qP 34 121 30 31 32 33,z3 4 34]))) (.reg [zP 35 26 1,z3 26 35]))))))) (.seq (.seq (.reg [z3 36 0,z6 37 36,z4 38 4 37,z5 39 1 38,zI 40 39,zC 41 0]) (.block 2 (.loop (.seq (.reg [zQ 42 41 40]) (.seq (.cond (.tmp 42) .skip (.exit 2)) (.seq (.block 3 (.seq (.reg [z3 43 41,z9 44 8 39 41,zA 45 8 44,zX 8 0 0 0 0 0 0 0 0 0,z3 7 43,z8
 8 8 45]) (.seq (.reg [z4 46 3 8,z5 47 1 46,z7 48 47 2]) (.cond (.tmp 48) (.reg [z3 49 0,z3 50 3,z3 51 4,z3 52 7,qJ 53 0 0 0 0 1 2 2 1 52,qP 54 121 49 50 51 53,z3 4 54]) .skip)))) (.reg [zP 55 41 1,z3 41 55]))))))) (.seq (.reg [zC 9 (-1)]) (.seq (.block 4 (.loop (.seq (.seq (.reg [z3 56 9,z3 57 4,zI 58 57,qB 59 56 58]) (.cond (.tmp 59) .skip (.exit 4))) (.block 5 (.seq (.reg [z3 60 4,zI 61
 60,z3 9 61]) (.seq (.reg [zC 10 0]) (.block 6 (.loop (.seq (.seq (.reg [z3 62 10,z3 63 4,zI 64 63,zQ 65 62 64]) (.cond (.tmp 65) .skip (.exit 6))) (.seq (.block 7 (.seq (.dreg 11 [z3 68 0,z6 69 68,z4 70 4 69,z5 71 1 70,z3 72 4,z3 73 10,z9 74 1 72 73,z5 75 1 74,z9 76 8 71 75,zA 77 8 76,zX 11 0 0 0 0 0 0 0 0 0,z8 8 11 77]) (.seq (.reg [z4 78 7 11,z5 79 1 78,zI 80 79,zC 81 0]) (.block 8 (.loop
 (.seq (.reg [zQ 82 81 80]) (.seq (.cond (.tmp 82) .skip (.exit 8)) (.seq (.block 9 (.seq (.reg [z9 83 6 79 81,zA 84 6 83,q7 13 0 0 0 0 0 0,z8 6 13 84]) (.seq (.seq (.reg [z4 85 2 11,z5 86 1 85,j8 87 86 1,z7 88 87 0]) (.cond (.tmp 88) (.reg [z3 89 0,z3 90 3,z3 91 4,z4 92 0 13,zA 93 3 92,qP 94 121 89 90 91 93,z3 4 94]) .skip)) (.seq (.reg [z3 95 0,z4 96 0 13,zA 97 3 96,zU 98 122 95 97,zt 14 0
 0 0,z8 3 14 98]) (.seq (.reg [z4 99 2 11,z5 100 1 99,j8 101 100 2,z7 102 101 0,z3 103 102,zE 104 103 0 14,zD 105 103 1 104,q4 106 103 105 2,zF 107 103 106,zN 108 107 3,zG 109 107 2 14,zK 110 107 1 109,qG 111 107 1 108 110,zK 112 107 1 111,qF 113 103 107 112,zL 114 103 113]) (.cond (.tmp 114) (.reg [z3 115 0,z3 116 3,z3 117 4,z4 118 3 13,zA 119 3 118,qP 120 121 115 116 117 119,z3 4 120])
 .skip)))))) (.reg [zP 121 81 1,z3 81 121]))))))))) (.reg [z3 66 10,zP 67 66 1,z3 10 67]))))))))))) (.seq (.reg [z3 122 3,z3 2 122]) .ret)))))))
theorem t77:Tryz.f77.body.bind (trC e77)=some c77:=by kernel_rfl
theorem r77:Tryz.f77.results.toList.mapM (trR Tryz.prog)=some [.tmp 2]:=by kernel_rfl
theorem fn77{args:List Value}{M:Mem}{post:Value→Mem→Prop}(hl:args.length≤123)(h:VC e77 c77 (fnQ [.tmp 2] post) (initS args 123) M):Fn Tryz.prog 77 args M post:=
 Fn.of' (E:=e77) Tryz.func77 t77 rfl r77 mixed hl h
noncomputable def e91:Env:=⟨Tryz.prog,[],30,[]⟩
noncomputable def c91:C:=
 .seq (.reg [zC 4 0]) (.seq (.reg [zC 5 0]) (.seq (.seq (.reg [z3 8 1,zI 9 8,zC 10 0]) (.block 0 (.loop (.seq (.reg [zQ 11 10 9]) (.seq (.cond (.tmp 11) .skip (.exit 0)) (.seq (.block 1 (.seq (.reg [z3 12 10,z9 13 1 8 10,z5 14 1 13,z3 6 12,z3 7 14]) (.seq (.reg [z3 15 7]) (.cond (.tmp 15) (.reg [z3 16 5,z3 17 0,z6 18 17,z4 19 4 18,z5 20 1 19,z3 21 6,z9 22 8 20 21,z4 23 7 22,z5 24 1 23,zI 25
 24,zi 26 1 25,q6 27 16 26,z3 5 27]) .skip)))) (.reg [zP 28 10 1,z3 10 28]))))))) (.seq (.reg [z3 29 5,z3 4 29]) .ret)))
theorem t91:Tryz.f91.body.bind (trC e91)=some c91:=by kernel_rfl
theorem r91:Tryz.f91.results.toList.mapM (trR Tryz.prog)=some [.tmp 4]:=by kernel_rfl
theorem fn91{args:List Value}{M:Mem}{post:Value→Mem→Prop}(hl:args.length≤30)(h:VC e91 c91 (fnQ [.tmp 4] post) (initS args 30) M):Fn Tryz.prog 91 args M post:=
 Fn.of' (E:=e91) Tryz.func91 t91 rfl r91 mixed hl h
noncomputable def e54:Env:=⟨Tryz.prog,[],13,[]⟩
noncomputable def c54:C:=
 .seq (.reg [zC 2 0]) (.seq (.reg [z3 6 0,zM 7 90 6,z3 5 7,qQ 8 5 0,qQ 9 5 1,z3 3 8,z3 4 9]) (.seq (.reg [z3 10 0,z3 11 3,zU 12 91 10 11,z3 2 12]) .ret))
theorem t54:Tryz.f54.body.bind (trC e54)=some c54:=by kernel_rfl
theorem r54:Tryz.f54.results.toList.mapM (trR Tryz.prog)=some [.tmp 2]:=by kernel_rfl
theorem fn54{args:List Value}{M:Mem}{post:Value→Mem→Prop}(hl:args.length≤13)(h:VC e54 c54 (fnQ [.tmp 2] post) (initS args 13) M):Fn Tryz.prog 54 args M post:=
 Fn.of' (E:=e54) Tryz.func54 t54 rfl r54 mixed hl h
noncomputable def e38:Env:=⟨Tryz.prog,[5],39,[(5,20)]⟩
noncomputable def c38:C:=
 .seq (.reg [zC 2 0]) (.seq (.reg [zC 3 (-1)]) (.seq (.seq (.reg [z3 6 0,z6 7 6,z4 8 4 7,z5 9 1 8,zI 10 9,zC 11 0]) (.block 0 (.loop (.seq (.reg [zQ 12 11 10]) (.seq (.cond (.tmp 12) .skip (.exit 0)) (.seq (.block 1 (.seq (.reg [z3 13 11,z9 14 8 9 11,zA 15 8 14,zX 5 0 0 0 0 0 0 0 0 0,z3 4 13,z8 8 5 15]) (.seq (.dreg 20 [z4 16 3 5,z5 17 1 16,z7 18 17 2,z3 19 18,zF 20 19 3,⟨some 21,some (19,
 true),.bin .lss (.tmp 20) (.const (.int .i64 0))⟩,zF 22 19 21,zG 23 22 4 5,zK 24 22 1 23,zN 25 22 0,zZ 26 22 25,zG 27 22 4 26,zK 28 22 1 27,zN 29 22 3,qG 30 22 8 28 29,zG 31 22 4 30,zK 32 22 1 31,qZ 33 22 24 32,qF 34 19 22 33,zL 35 19 34]) (.cond (.tmp 35) (.reg [z3 36 4,z3 3 36]) .skip)))) (.reg [zP 37 11 1,z3 11 37]))))))) (.seq (.reg [z3 38 3,z3 2 38]) .ret)))
theorem t38:Tryz.f38.body.bind (trC e38)=some c38:=by kernel_rfl
theorem r38:Tryz.f38.results.toList.mapM (trR Tryz.prog)=some [.tmp 2]:=by kernel_rfl
theorem fn38{args:List Value}{M:Mem}{post:Value→Mem→Prop}(hl:args.length≤39)(h:VC e38 c38 (fnQ [.tmp 2] post) (initS args 39) M):Fn Tryz.prog 38 args M post:=
 Fn.of' (E:=e38) Tryz.func38 t38 rfl r38 mixed hl h
end Go.Proofs.YtcjmodomfilagaaGreat.E
set_option maxHeartbeats 4000000
namespace Go.Proofs.YtcjmodomfilagaaGreat.E
open Go
open Classical
theorem sound_q{m:Mem}{x:HX}(h:Has m x.body):Qt Tryz.prog 25 [x.v] m (.bool (decide (okH x.H=0))):=by
 refine qt_of (fnA_of (fun h=>fn25 (by simp) h) ?_)
 repeat' (first
  |(refine k_L ?_;first|refine a_p rfl ?_|(refine k_bx ?_;refine a_bx rfl rfl ?_)|(refine k_c ?_;refine a_cq rfl (fun m hm=>implHeapOk_q (x:=x) (has_g h hm)) ?_))
  |refine a_n ?_
  |(refine k_V ?_;first|refine v_seq ?_|refine v_reg ?_|refine v_ret ?_))
 exact fa_q (by simp) (fun _ _=>rfl) rfl
theorem qt_e{P:Program}{f:FuncId}{args:List Value}{m:Mem}{r r':Value}(h:Qt P f args m r)(e:r=r'):Qt P f args m r':=e▸h
noncomputable def ndG(H:Heap):Nat→Int
 |0=> -1
 |i+1=>if(H.getC i).last=2∧(ndG H i<0∨(H.getC i).born<(H.getC (ndG H i)).born)then(i:Int)else ndG H i
theorem ndG_lt(H:Heap):∀i,-1≤ndG H i∧ndG H i<i
 |0=>by simp[ndG]
 |i+1=>by
  have:=ndG_lt H i
  unfold ndG
  split<;>omega
theorem getC_nat{H:Heap}{i:Nat}{c:Cell}(h:H.cells[i]?=some c):H.getC (i:Int)=c:=by
 unfold Heap.getC
 simp[h]
theorem last2{H:Heap}(h:R2 H){i:Nat}{c:Cell}(hc:H.cells[i]?=some c)(hl:c.last=2):c.state=1:=by
 rcases h.each i c hc with h|h|h
 ·have:=h.2.1.2.2.1;omega
 ·have:=h.2.1.2.2.1;omega
 ·exact h.1
theorem l4next_q{m:Mem}{a:Nat}{x:HX}(h:Has m (hp a x)):Qt Tryz.prog 38 [ptr a] m (.int .i64 (ndG x.H x.H.cells.length)):=by
 have hb0:=h.lens
 have hl:=x.len
 refine qt_of (fnA_of (fun h=>fn38 (by simp) h) ?_)
 repeat' (first
  |(refine k_L ?_;first|refine a_p rfl ?_|(refine k_l ?_;refine g_l rfl ?_))
  |refine a_n ?_
  |(refine k_V ?_;first|refine v_seq ?_|refine v_reg ?_)
  |refine s_n ?_)
 refine g_range x.xs.length (fun n:Int=>[(0,.v (ptr a)),(3,.v (.int .i64 n)),(9,.v (.slice x.cd.a x.xs.length x.cd.cap))]) (fun _=>[ro m]) (fun i n=>n=ndG x.H i) (-1) rfl (fun i n hi hn=>?_) (fun n hn=>?_)
 ·obtain⟨y,gy,gc⟩:=HX.at hi
  have gi:=getC_nat gc
  have hb:=ndG_lt x.H i
  by_cases hn0:n<0
  ·have e:ndG x.H (i+1)=if y.c.last=2 then(i:Int)else n:=by
    show(if _ then _ else _)=_
    rw[gi,←hn];simp[hn0]
   repeat' (first
    |(refine k_L ?_;first|refine a_p rfl ?_|(refine k_g ?_;first|refine a_gy rfl rfl ?_|refine a_gn rfl rfl ?_|refine a_gu rfl ?_|(refine a_gd rfl (fun hb=>?_) (fun hb=>?_)<;>try(exfalso;omega)))|(refine k_i ?_;refine g_i rfl rfl ?_)|(refine k_ls ?_;refine g_ls rfl ?_)|(refine k_st ?_;refine g_sw rfl rfl rfl rfl (Nat.le_of_ble_eq_true rfl) ?_)|(refine k_al ?_;refine a_al ?_))
    |refine a_n ?_
    |(refine k_V ?_;first|refine v_seq ?_|refine v_reg ?_|refine v_dreg ?_|refine v_skip ?_|refine v_ct rfl ?_|refine v_cf rfl ?_)
    |refine sk_zero ?_
    |refine sk_succ ?_
    |refine wk_nil ?_
    |refine wk_cons ?_)
   ·exact r_nx i (by rw[e];simp_all)
   ·exact r_nx n (by rw[e];simp_all)
  ·obtain⟨z,gz,gd⟩:=HX.atI (x:=x) (i:=n) (by omega) (by omega)
   have e:ndG x.H (i+1)=if y.c.last=2∧y.c.born<z.c.born then(i:Int)else n:=by
    show(if _ then _ else _)=_
    rw[gi,←hn,gd];simp[hn0]
   repeat' (first
    |(refine k_L ?_;first|refine a_p rfl ?_|(refine k_g ?_;first|refine a_gy rfl rfl ?_|refine a_gn rfl rfl ?_|refine a_gu rfl ?_|(refine a_gd rfl (fun hb=>?_) (fun hb=>?_)<;>try(exfalso;omega)))|(refine k_l ?_;refine g_l rfl ?_)|(refine k_i ?_;refine g_i rfl rfl ?_)|(refine k_ls ?_;refine g_ls rfl ?_)|(refine k_st ?_;refine g_sw rfl rfl rfl rfl (Nat.le_of_ble_eq_true rfl) ?_)|(refine k_al ?_;refine a_al ?_))
    |refine a_n ?_
    |(refine k_V ?_;first|refine v_seq ?_|refine v_reg ?_|refine v_dreg ?_|refine v_skip ?_|refine v_cf rfl ?_|(refine v_cd rfl (fun hb=>?_) (fun hb=>?_)<;>try(exfalso;omega)))
    |refine sk_zero ?_
    |refine sk_succ ?_
    |refine wk_nil ?_
    |refine wk_cons ?_)
   ·exact r_nx i (by rw[e];simp_all)
   ·exact r_nx n (by rw[e,if_neg (fun hc=>absurd hc.2 ‹_›)])
   ·exact r_nx n (by rw[e];simp_all)
 ·subst hn
  repeat' (first
   |(refine k_L ?_;refine a_p rfl ?_)
   |refine a_n ?_
   |(refine k_V ?_;first|refine v_seq ?_|refine v_reg ?_|refine v_ret ?_))
  exact fa_q (by simp) (fun _ _=>rfl) (by rw[hl])
def Heap.tgt(H:Heap)(w:Word):Option Nat:=if(H.lead w).kind=2 then some (H.lead w).at_.toNat else none
inductive Reached (H:Heap):Nat→Prop
 |reg {w:Word} {j:Nat}:w∈H.regs→H.tgt w=some j→Reached H j
 |root {i:Nat} {c:Cell}:H.cells[i]?=some c→Root c→Reached H i
 |pair {i j:Nat} {c:Cell} {p:Pair} {w:Word}:Reached H i→H.cells[i]?=some c→p∈c.pairs→(w=p.key∨w=p.val)→H.tgt w=some j→Reached H j
theorem lead_kind{H:Heap}{w:Word}:(H.lead w).kind=2↔w.kind=2:=by
 unfold Heap.lead
 split
 ·rename_i h;simp[h.1]
 ·rfl
theorem lead_at{H:Heap}(h:R2 H){w:Word}(hf:Formed H w)(hk:w.kind=2):0≤(H.lead w).at_∧(H.lead w).at_<H.cells.length:=by
 have hat:=hf.at hk
 unfold Heap.lead
 split
 ·rename_i hc
  obtain⟨c,hcc⟩:∃c,H.cells[w.at_.toNat]?=some c:=⟨_,List.getElem?_eq_getElem (by omega)⟩
  have hg:H.getC w.at_=c:=by unfold Heap.getC;simp[hcc]
  have hcc':=hcc
  rcases h.each _ c hcc with h1|h1|h1
  ·rw[hg]at hc;have:=h1.1;omega
  ·rw[hg]
   have:=h1.2.2.2.1
   simp only at this⊢
   omega
  ·rw[hg]at hc;have:=h1.1;omega
 ·exact hat
theorem tgt_lt{H:Heap}(h:R2 H){w:Word}(hf:Formed H w){j:Nat}(ht:H.tgt w=some j):j<H.cells.length∧(H.lead w).kind=2∧(H.lead w).at_=j:=by
 unfold Heap.tgt at ht
 split at ht
 ·rename_i hk
  simp only[Option.some.injEq]at ht
  have:=lead_at h hf (lead_kind.1 hk)
  exact⟨by omega,hk,by omega⟩
 ·cases ht
def mkW(H:Heap)(s:List Bool×List Int)(w:Word):List Bool×List Int:=
 match H.tgt w with
 |some j=>if s.1[j]?=some false then(s.1.set j true,s.2++[(j:Int)])else s
 |none=>s
def Hit(H:Heap)(seen:List Bool)(w:Word):Prop:=∀j,H.tgt w=some j→seen[j]?=some true
structure Mk (H:Heap) (S:Nat→Prop) (s:List Bool×List Int):Prop where
 len:s.1.length=H.cells.length
 snd:∀j,s.1[j]?=some true→S j
 stk:∀g,g∈s.2→∃j:Nat,g=j∧s.1[j]?=some true
 cnt:s.2.length+s.1.count false≤H.cells.length
structure Grow (s t:List Bool×List Int):Prop where
 mono:∀j:Nat,s.1[j]?=some true→t.1[j]?=some true
 new:∀j:Nat,t.1[j]?=some true→s.1[j]?=some true∨(j:Int)∈t.2
 old:∀g,g∈s.2→g∈t.2
 msr:2*t.1.count false+t.2.length≤2*s.1.count false+s.2.length
 pre:s.2<+:t.2
theorem Grow.refl(s:List Bool×List Int):Grow s s:=⟨fun _ h=>h,fun _ h=>.inl h,fun _ h=>h,Nat.le_refl _,List.prefix_refl _⟩
theorem Grow.trans{s t u:List Bool×List Int}(h:Grow s t)(k:Grow t u):Grow s u:=
 ⟨fun j hj=>k.mono j (h.mono j hj),fun j hj=>(k.new j hj).elim (fun h'=>(h.new j h').elim .inl fun h''=>.inr (k.old _ h'')) .inr,fun g hg=>k.old g (h.old g hg),Nat.le_trans k.msr h.msr,h.pre.trans k.pre⟩
theorem Hit.grow{H:Heap}{s t:List Bool×List Int}{w:Word}(h:Hit H s.1 w)(g:Grow s t):Hit H t.1 w:=fun j hj=>g.mono j (h j hj)
theorem count_set{l:List Bool}{j:Nat}(h:l[j]?=some false):(l.set j true).count false+1=l.count false:=by
 induction l generalizing j with
 |nil=>simp at h
 |cons b r ih=>
  cases j with
  |zero=>simp only[List.getElem?_cons_zero,Option.some.injEq]at h;subst h;simp
  |succ j=>
   simp only[List.getElem?_cons_succ]at h
   have:=ih h
   simp only[List.set_cons_succ,List.count_cons]
   omega
theorem mkW_ok{H:Heap}{S:Nat→Prop}{s:List Bool×List Int}{w:Word}(h:Mk H S s)(hw:∀j,H.tgt w=some j→j<H.cells.length∧S j):Mk H S (mkW H s w)∧Grow s (mkW H s w)∧Hit H (mkW H s w).1 w:=by
 unfold mkW
 cases ht:H.tgt w with
 |none=>exact⟨h,Grow.refl s,fun j hj=>by rw[ht]at hj;cases hj⟩
 |some j=>
  obtain⟨hj,hS⟩:=hw j ht
  simp only
  by_cases hs:s.1[j]?=some false
  ·rw[if_pos hs]
   have hc:=count_set hs
   have hjl:j<s.1.length:=by rw[h.len];exact hj
   have hset:∀k:Nat,(s.1.set j true)[k]?=some true↔k=j∨s.1[k]?=some true:=by
    intro k
    rw[List.getElem?_set]
    by_cases e:j=k
    ·subst e;simp[hjl]
    ·simp only[e,if_false]
     constructor
     ·exact .inr
     ·rintro(h|h)
      ·exact absurd h.symm e
      ·exact h
   refine⟨⟨by simpa using h.len,fun k hk=>?_,fun g hg=>?_,?_⟩,⟨fun k hk=>(hset k).2 (.inr hk),fun k hk=>?_,fun g hg=>List.mem_append_left _ hg,?_,List.prefix_append _ _⟩,fun k hk=>?_⟩
   ·rcases(hset k).1 hk with rfl|hk
    ·exact hS
    ·exact h.snd k hk
   ·rcases List.mem_append.1 hg with hg|hg
    ·obtain⟨k,e,hk⟩:=h.stk g hg
     exact⟨k,e,(hset k).2 (.inr hk)⟩
    ·exact⟨j,by simpa using hg,(hset j).2 (.inl rfl)⟩
   ·have:=h.cnt
    simp only[List.length_append,List.length_singleton]
    omega
   ·rcases(hset k).1 hk with rfl|hk
    ·exact .inr (List.mem_append_right _ (by simp))
    ·exact .inl hk
   ·simp only[List.length_append,List.length_singleton]
    omega
   ·rw[ht]at hk
    cases hk
    exact(hset j).2 (.inl rfl)
  ·rw[if_neg hs]
   refine⟨h,Grow.refl s,fun k hk=>?_⟩
   rw[ht]at hk
   cases hk
   have hjl:j<s.1.length:=by rw[h.len];exact hj
   rw[List.getElem?_eq_getElem hjl]at hs⊢
   cases hb:s.1[j]with
   |true=>rfl
   |false=>rw[hb]at hs;exact absurd rfl hs
noncomputable def reachL(H:Heap):List Bool:=(List.range H.cells.length).map fun i=>decide (Reached H i)
structure Full (H:Heap) (seen:List Bool):Prop where
 regs:∀w,w∈H.regs→Hit H seen w
 roots:∀(i:Nat) c,H.cells[i]?=some c→Root c→seen[i]?=some true
def Closed(H:Heap)(seen:List Bool)(open_:Nat→Prop):Prop:=∀(i:Nat) c,seen[i]?=some true→¬open_ i→H.cells[i]?=some c→∀p,p∈c.pairs→Hit H seen p.key∧Hit H seen p.val
theorem reach_end{H:Heap}{s:List Bool×List Int}(h:Mk H (Reached H) s)(hf:Full H s.1)(hc:Closed H s.1 fun _=>False):s.1=reachL H:=by
 have key:∀j,Reached H j→s.1[j]?=some true:=by
  intro j hj
  induction hj with
  |reg h1 h2=>exact hf.regs _ h1 _ h2
  |root h1 h2=>exact hf.roots _ _ h1 h2
  |pair _ h2 h3 h4 h5 ih=>
   have:=hc _ _ ih (fun h=>h) h2 _ h3
   rcases h4 with rfl|rfl
   ·exact this.1 _ h5
   ·exact this.2 _ h5
 unfold reachL
 apply List.ext_getElem?
 intro i
 by_cases hi:i<H.cells.length
 ·rw[List.getElem?_map,List.getElem?_range hi]
  simp only[Option.map_some]
  have hl:i<s.1.length:=by rw[h.len];exact hi
  rw[List.getElem?_eq_getElem hl]
  congr 1
  cases hb:s.1[i]with
  |true=>
   have:Reached H i:=h.snd i (by rw[List.getElem?_eq_getElem hl,hb])
   simp[this]
  |false=>
   have:¬Reached H i:=fun hr=>by
    have:=key i hr
    rw[List.getElem?_eq_getElem hl,hb]at this
    cases this
   simp[this]
 ·rw[List.getElem?_eq_none (by rw[h.len];omega),List.getElem?_eq_none (by simp;omega)]
end Go.Proofs.YtcjmodomfilagaaGreat.E
