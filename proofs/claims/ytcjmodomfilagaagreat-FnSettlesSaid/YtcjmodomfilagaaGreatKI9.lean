/- A part of the proof. Conditions: none. -/
import Derived.Test.YtcjmodomfilagaaGreatKI8
set_option linter.unusedVariables false
set_option linter.unusedSimpArgs false
set_option maxHeartbeats 8000000
set_option maxRecDepth 100000
namespace Go.Proofs.YtcjmodomfilagaaGreat.E
open Go
open Classical
theorem l1words_q{m:Mem}{a:Nat}{x:HX}(h:Has m (hp a x)):Qt Tryz.prog 72 [ptr a] m (.bool (decide (R4 x.H))):=by
 have hb:=h.lens
 have hl:=x.len
 have hnc:(x.hdr.nc:Int)=x.H.cells.length:=by rw[hl];rfl
 refine qt_of (fnA_of (fun h=>fn72 (by simp) h) ?_)
 repeat' (first
  |(refine k_L ?_;first|refine a_p rfl ?_|(refine k_l ?_;refine g_l rfl ?_))
  |refine a_n ?_
  |(refine k_V ?_;first|refine v_seq ?_|refine v_reg ?_)
  |refine s_n ?_)
 refine g_range x.regs.length (fun _:Unit=>[(0,.v (ptr a)),(14,.v (.slice x.rd.a x.regs.length x.rd.cap))]) (fun _=>[ro m]) (fun i _=>∀(j:Nat) w,j<i→x.regs[j]?=some w→Formed x.H w∧LeadsWell x.H w False) () (fun j c hj=>by omega) (fun i _ hi hv=>?_) (fun _ hr=>?_)
 ·obtain⟨w,gw⟩:∃w,x.regs[i]?=some w:=⟨_,List.getElem?_eq_getElem hi⟩
  have lw:=leadsWell_b (H:=x.H) (w:=w) (b:=false) (p:=False) (by simp)
  repeat' (first
   |(refine k_L ?_;first|refine a_p rfl ?_|(refine k_i ?_;refine g_i rfl rfl ?_)|(refine k_ls ?_;refine g_ls rfl ?_)|(refine k_st ?_;refine g_sw rfl rfl rfl rfl (Nat.le_of_ble_eq_true rfl) ?_)|(refine k_al ?_;refine a_al ?_)|(refine k_c ?_;refine a_cq rfl (fun m hm=>l1leads_q (w:=w) (has_g h hm)) ?_))
   |refine a_n ?_
   |(refine k_V ?_;first|refine v_rv ?_|refine v_seq ?_|refine v_reg ?_|refine v_skip ?_|(refine v_cnd rfl (fun hb=>?_) (fun hb=>?_)<;>try(exfalso;omega)))
   |refine s_r ?_
   |refine r_rt ?_
   |refine sk_zero ?_
   |refine sk_succ ?_
   |refine wk_nil ?_
   |refine wk_cons ?_)
  ·refine q_F fun h4=>?_
   have:=h4.regs w (List.mem_of_getElem? gw)
   have hn:¬(Formed x.H w∧LeadsWell x.H w (false=true)):=‹_›
   exact hn ⟨this.1,lw.2 this.2⟩
  ·refine r_nx () (fun j v hj hq=>?_)
   by_cases e:j=i
   ·subst e;rw[gw]at hq;cases hq
    have hfl:Formed x.H w∧LeadsWell x.H w (false=true):=‹_›
    exact⟨hfl.1,lw.1 hfl.2⟩
   ·exact hv j v (by omega) hq
 repeat' (first
  |(refine k_L ?_;first|refine a_p rfl ?_|(refine k_l ?_;refine g_l rfl ?_))
  |refine a_n ?_
  |(refine k_V ?_;first|refine v_seq ?_|refine v_reg ?_)
  |refine s_n ?_)
 refine g_range x.xs.length (fun _:Unit=>[(0,.v (ptr a)),(28,.v (.slice x.cd.a x.xs.length x.cd.cap))]) (fun _=>[ro m]) (fun i _=>∀(j:Nat) c,j<i→x.H.cells[j]?=some c→OK4 x.H j c) () (fun j c hj=>by omega) (fun i _ hi hv=>?_) (fun _ hv=>?_)
 ·obtain⟨y,gy,gc⟩:=HX.at hi
  have hbp:y.c.pairs.length≤140737488355328:=by obtain⟨b,l,s⟩:=h;exact(kn_t (kn_t (kn_h (kb_cp gy))):Kn (hp a x) _).out b s
  have hgc:x.H.getC (i:Int)=y.c:=by unfold Heap.getC;rw[List.getD_eq_getElem?_getD];show(x.H.cells[i]?).getD _=_;rw[gc];rfl
  refine v_seq ?_
  repeat' (first
   |(refine k_L ?_;first|refine a_p rfl ?_|(refine k_i ?_;refine g_i rfl rfl ?_)|(refine k_ls ?_;refine g_ls rfl ?_)|(refine k_st ?_;refine g_sw rfl rfl rfl rfl (Nat.le_of_ble_eq_true rfl) ?_)|(refine k_al ?_;refine a_al ?_))
   |refine a_n ?_
   |(refine k_V ?_;refine v_reg ?_)
   |refine s_n ?_
   |refine sk_zero ?_
   |refine sk_succ ?_
   |refine wk_nil ?_
   |refine wk_cons ?_)
  refine v_seq ?_
  repeat' (first
   |(refine k_L ?_;first|refine a_p rfl ?_|(refine k_c ?_;refine a_cq rfl (fun m hm=>l1doomed_q (i:=i) (has_g h hm) (by omega) (by omega)) ?_))
   |refine a_n ?_
   |(refine k_V ?_;refine v_reg ?_)
   |refine s_n ?_)
  refine g_cut (fun _:Unit=>[(0,.v (ptr a)),(5,.v (.int .i64 i)),(6,.box (csw y)),(7,.v (.bool (decide (Doomed x.H i)))),(28,.v (.slice x.cd.a x.xs.length x.cd.cap)),(29,.v (.int .i64 x.xs.length)),(30,.v (.int .i64 i))]) (fun _=>[ro m]) (fun _=>Doomed x.H i→¬Root y.c) ?_ (fun _ hdr=>?_)
  ·repeat' (first
    |(refine k_L ?_;first|refine a_p rfl ?_|(refine k_g ?_;first|refine a_gy rfl rfl ?_|refine a_gn rfl rfl ?_|refine a_gu rfl ?_|(refine a_gd rfl (fun hb=>?_) (fun hb=>?_)<;>try(exfalso;omega))))
    |refine a_n ?_
    |(refine k_V ?_;first|refine v_rv ?_|refine v_seq ?_|refine v_reg ?_|refine v_skip ?_|refine v_ct rfl ?_|refine v_cf rfl ?_|(refine v_cd rfl (fun hb=>?_) (fun hb=>?_)<;>try(exfalso;omega)))
    |refine s_n ?_
    |refine s_r ?_
    |refine r_rt ?_)
   all_goals first
    |exact q_F fun h4=>h4.roots i _ gc ‹_› ⟨hgc▸‹Doomed x.H i›.2.1,.inl ‹_›⟩
    |exact q_F fun h4=>h4.roots i _ gc ‹_› ⟨hgc▸‹Doomed x.H i›.2.1,.inr ‹_›⟩
    |exact j_i () (fun r1 r2=>absurd r1 ‹_›)
    |exact j_i () (fun r1 r2=>r2.2.elim ‹_› ‹_›)
  by_cases hD:Doomed x.H i
  ·repeat' (first
    |(refine k_L ?_;refine a_p rfl ?_)
    |refine a_n ?_
    |(refine k_V ?_;first|refine v_seq ?_|refine v_reg ?_)
    |refine s_n ?_)
   refine g_range y.c.pairs.length (fun _:Unit=>[(0,.v (ptr a)),(5,.v (.int .i64 i)),(7,.v (.bool (decide (Doomed x.H i)))),(28,.v (.slice x.cd.a x.xs.length x.cd.cap)),(29,.v (.int .i64 x.xs.length)),(30,.v (.int .i64 i)),(50,.v (.slice y.d.a y.c.pairs.length y.d.cap))]) (fun _=>[ro m]) (fun k _=>∀(j:Nat) p,j<k→y.c.pairs[j]?=some p→Formed x.H p.key∧Formed x.H p.val) () (fun j c hj=>by omega) (fun k _ hk hv=>?_) (fun _ hw=>?_)
   ·obtain⟨p,gp⟩:∃p,y.c.pairs[k]?=some p:=⟨_,List.getElem?_eq_getElem (by omega)⟩
    rw[decide_eq_true hD]
    repeat' (first
     |(refine k_L ?_;first|refine a_p rfl ?_|(refine k_g ?_;first|refine a_gy rfl rfl ?_|refine a_gn rfl rfl ?_|(refine a_gnd rfl (fun hb=>?_) (fun hb=>?_)<;>try(exfalso;omega)))|(refine k_l ?_;refine g_l rfl ?_)|(refine k_i ?_;refine g_i rfl rfl ?_)|(refine k_ls ?_;refine g_ls rfl ?_)|(refine k_st ?_;refine g_sw rfl rfl rfl rfl (Nat.le_of_ble_eq_true rfl) ?_)|(refine k_al ?_;refine a_al ?_)|(refine k_q ?_;first|refine a_q rfl (fun m hm=>l1formed_q (H:=x.H) (w:=p.key) hnc) ?_|refine a_q rfl (fun m hm=>l1formed_q (H:=x.H) (w:=p.val) hnc) ?_))
     |refine a_n ?_
     |(refine k_V ?_;first|refine v_rv ?_|refine v_seq ?_|refine v_reg ?_|refine v_dreg ?_|refine v_exit ?_|refine v_skip ?_|refine v_ct rfl ?_|(refine v_cnd rfl (fun hb=>?_) (fun hb=>?_)<;>try(exfalso;omega)))
     |refine s_r ?_
     |refine s_e ?_
     |refine r_rt ?_
     |refine sk_zero ?_
     |refine sk_succ ?_
     |refine wk_nil ?_
     |refine wk_cons ?_)
    ·exact q_F fun h4=>‹¬Formed x.H p.key› (h4.pairs i _ gc k p gp).1
    ·exact q_F fun h4=>‹¬Formed x.H p.val› (h4.pairs i _ gc k p gp).2.1
    ·refine r_ct () (fun j q hj hq=>?_)
     by_cases e:j=k
     ·subst e;rw[gp]at hq;cases hq;exact⟨‹_›,‹_›⟩
     ·exact hv j q (by omega) hq
   ·repeat' (first
     |(refine k_L ?_;first|(refine k_ad ?_;refine g_ad rfl rfl ?_)|(refine k_su ?_;refine g_su rfl rfl ?_)|(refine k_ml ?_;refine g_ml rfl rfl ?_)|refine a_p rfl ?_|(refine k_g ?_;first|refine a_gy rfl rfl ?_|refine a_gn rfl rfl ?_|refine a_gu rfl ?_|(refine a_gd rfl (fun hb=>?_) (fun hb=>?_)<;>try(exfalso;omega))|(refine a_ge rfl (fun hb=>?_) (fun hb=>?_)<;>try(exfalso;omega))|(refine a_gne rfl (fun hb=>?_) (fun hb=>?_)<;>try(exfalso;omega))|(refine a_gnd rfl (fun hb=>?_) (fun hb=>?_)<;>try(exfalso;omega)))|(refine k_l ?_;refine g_l rfl ?_)|(refine k_i ?_;refine g_i rfl rfl ?_)|(refine k_ls ?_;refine g_ls rfl ?_)|(refine k_st ?_;first|refine g_st rfl rfl rfl rfl ?_|refine g_sw rfl rfl rfl rfl (Nat.le_of_ble_eq_true rfl) ?_)|(refine k_al ?_;refine a_al ?_)|(refine k_bx ?_;refine a_bx rfl rfl ?_)|(refine k_bl ?_;refine a_bl rfl ?_)|(refine k_p ?_;first|(refine a_pd rfl (fun hb=>?_) (fun hb=>?_)<;>try(exfalso;omega))|(refine a_pe rfl (fun hb=>?_) (fun hb=>?_)<;>try(exfalso;omega))|(refine a_pne rfl (fun hb=>?_) (fun hb=>?_)<;>try(exfalso;omega))|(refine a_pnd rfl (fun hb=>?_) (fun hb=>?_)<;>try(exfalso;omega))))
     |refine a_n ?_
     |(refine k_V ?_;first|refine v_rv ?_|refine v_seq ?_|refine v_reg ?_|refine v_dreg ?_|refine v_zreg ?_|refine v_bs ?_|refine v_br ?_|refine v_bd ?_|refine v_bc ?_|refine v_bk ?_|refine v_bb ?_|refine v_ret ?_|refine v_exit ?_|refine v_skip ?_|refine v_ct rfl ?_|refine v_cf rfl ?_|(refine v_cd rfl (fun hb=>?_) (fun hb=>?_)<;>try(exfalso;omega))|(refine v_ce rfl (fun hb=>?_) (fun hb=>?_)<;>try(exfalso;omega))|(refine v_cn rfl (fun hb=>?_) (fun hb=>?_)<;>try(exfalso;omega))|(refine v_cnd rfl (fun hb=>?_) (fun hb=>?_)<;>try(exfalso;omega)))
     |refine s_n ?_
     |refine s_r ?_
     |refine s_e ?_
     |refine b_n ?_
     |refine b_r ?_
     |refine b_e ?_
     |refine b_o rfl ?_
     |refine r_rt ?_
     |refine r_bk rfl ?_
     |refine r_ex rfl rfl ?_
     |refine sk_zero ?_
     |refine sk_succ ?_
     |refine wk_nil ?_
     |refine wk_cons ?_)
    refine r_nx () (fun j c hj hc=>?_)
    by_cases e:j=i
    ·subst e;rw[gc]at hc;cases hc
     exact⟨hdr,fun k p gp=>⟨(hw k p (List.getElem?_eq_some_iff.1 gp).1 gp).1,(hw k p (List.getElem?_eq_some_iff.1 gp).1 gp).2,fun hn=>absurd hD hn⟩⟩
    ·exact hv j c (by omega) hc
  ·repeat' (first
    |(refine k_L ?_;refine a_p rfl ?_)
    |refine a_n ?_
    |(refine k_V ?_;first|refine v_seq ?_|refine v_reg ?_)
    |refine s_n ?_)
   refine g_range y.c.pairs.length (fun _:Unit=>[(0,.v (ptr a)),(5,.v (.int .i64 i)),(7,.v (.bool (decide (Doomed x.H i)))),(28,.v (.slice x.cd.a x.xs.length x.cd.cap)),(29,.v (.int .i64 x.xs.length)),(30,.v (.int .i64 i)),(50,.v (.slice y.d.a y.c.pairs.length y.d.cap))]) (fun _=>[ro m]) (fun k _=>∀(j:Nat) p,j<k→y.c.pairs[j]?=some p→(Formed x.H p.key∧LeadsWell x.H p.key (¬Mended x.H i j))∧(Formed x.H p.val∧LeadsWell x.H p.val (¬Mended x.H i j))) () (fun j c hj=>by omega) (fun k _ hk hv=>?_) (fun _ hw=>?_)
   ·obtain⟨p,gp⟩:∃p,y.c.pairs[k]?=some p:=⟨_,List.getElem?_eq_getElem (by omega)⟩
    rw[decide_eq_false hD]
    have lw:=fun w=>leadsWell_b (H:=x.H) (w:=w) (b:= !decide (Mended x.H i k)) (p:=¬Mended x.H i k) (by simp)
    repeat' (first
     |(refine k_L ?_;first|refine a_p rfl ?_|(refine k_g ?_;first|refine a_gy rfl rfl ?_|refine a_gn rfl rfl ?_|(refine a_gnd rfl (fun hb=>?_) (fun hb=>?_)<;>try(exfalso;omega)))|(refine k_i ?_;refine g_i rfl rfl ?_)|(refine k_ls ?_;refine g_ls rfl ?_)|(refine k_st ?_;refine g_sw rfl rfl rfl rfl (Nat.le_of_ble_eq_true rfl) ?_)|(refine k_al ?_;refine a_al ?_)|(refine k_c ?_;first|refine a_cq rfl (fun m hm=>l1mended_q (i:=i) (k:=k) (has_g h hm)) ?_|refine a_cq rfl (fun m hm=>l1leads_q (w:=p.key) (has_g h hm)) ?_|refine a_cq rfl (fun m hm=>l1leads_q (w:=p.val) (has_g h hm)) ?_))
     |refine a_n ?_
     |(refine k_V ?_;first|refine v_rv ?_|refine v_seq ?_|refine v_reg ?_|refine v_skip ?_|refine v_ct rfl ?_|refine v_cf rfl ?_|(refine v_cnd rfl (fun hb=>?_) (fun hb=>?_)<;>try(exfalso;omega)))
     |refine s_r ?_
     |refine r_rt ?_
     |refine sk_zero ?_
     |refine sk_succ ?_
     |refine wk_nil ?_
     |refine wk_cons ?_)
    ·refine q_F fun h4=>?_
     have h5:=h4.pairs i _ gc k p gp
     have hn:¬(Formed x.H p.key∧LeadsWell x.H p.key ((!decide (Mended x.H i k))=true)):=‹_›
     exact hn ⟨h5.1,(lw p.key).2 (h5.2.2 hD).1⟩
    ·refine q_F fun h4=>?_
     have h5:=h4.pairs i _ gc k p gp
     have hn:¬(Formed x.H p.val∧LeadsWell x.H p.val ((!decide (Mended x.H i k))=true)):=‹_›
     exact hn ⟨h5.2.1,(lw p.val).2 (h5.2.2 hD).2⟩
    ·refine r_nx () (fun j q hj hq=>?_)
     by_cases e:j=k
     ·subst e;rw[gp]at hq;cases hq
      have c1:Formed x.H p.key∧LeadsWell x.H p.key ((!decide (Mended x.H i j))=true):=‹_›
      have c2:Formed x.H p.val∧LeadsWell x.H p.val ((!decide (Mended x.H i j))=true):=‹_›
      exact⟨⟨c1.1,(lw p.key).1 c1.2⟩,⟨c2.1,(lw p.val).1 c2.2⟩⟩
     ·exact hv j q (by omega) hq
   ·repeat' (first
     |(refine k_L ?_;first|(refine k_ad ?_;refine g_ad rfl rfl ?_)|(refine k_su ?_;refine g_su rfl rfl ?_)|(refine k_ml ?_;refine g_ml rfl rfl ?_)|refine a_p rfl ?_|(refine k_g ?_;first|refine a_gy rfl rfl ?_|refine a_gn rfl rfl ?_|refine a_gu rfl ?_|(refine a_gd rfl (fun hb=>?_) (fun hb=>?_)<;>try(exfalso;omega))|(refine a_ge rfl (fun hb=>?_) (fun hb=>?_)<;>try(exfalso;omega))|(refine a_gne rfl (fun hb=>?_) (fun hb=>?_)<;>try(exfalso;omega))|(refine a_gnd rfl (fun hb=>?_) (fun hb=>?_)<;>try(exfalso;omega)))|(refine k_l ?_;refine g_l rfl ?_)|(refine k_i ?_;refine g_i rfl rfl ?_)|(refine k_ls ?_;refine g_ls rfl ?_)|(refine k_st ?_;first|refine g_st rfl rfl rfl rfl ?_|refine g_sw rfl rfl rfl rfl (Nat.le_of_ble_eq_true rfl) ?_)|(refine k_al ?_;refine a_al ?_)|(refine k_bx ?_;refine a_bx rfl rfl ?_)|(refine k_bl ?_;refine a_bl rfl ?_)|(refine k_p ?_;first|(refine a_pd rfl (fun hb=>?_) (fun hb=>?_)<;>try(exfalso;omega))|(refine a_pe rfl (fun hb=>?_) (fun hb=>?_)<;>try(exfalso;omega))|(refine a_pne rfl (fun hb=>?_) (fun hb=>?_)<;>try(exfalso;omega))|(refine a_pnd rfl (fun hb=>?_) (fun hb=>?_)<;>try(exfalso;omega))))
     |refine a_n ?_
     |(refine k_V ?_;first|refine v_rv ?_|refine v_seq ?_|refine v_reg ?_|refine v_dreg ?_|refine v_zreg ?_|refine v_bs ?_|refine v_br ?_|refine v_bd ?_|refine v_bc ?_|refine v_bk ?_|refine v_bb ?_|refine v_ret ?_|refine v_exit ?_|refine v_skip ?_|refine v_ct rfl ?_|refine v_cf rfl ?_|(refine v_cd rfl (fun hb=>?_) (fun hb=>?_)<;>try(exfalso;omega))|(refine v_ce rfl (fun hb=>?_) (fun hb=>?_)<;>try(exfalso;omega))|(refine v_cn rfl (fun hb=>?_) (fun hb=>?_)<;>try(exfalso;omega))|(refine v_cnd rfl (fun hb=>?_) (fun hb=>?_)<;>try(exfalso;omega)))
     |refine s_n ?_
     |refine s_r ?_
     |refine s_e ?_
     |refine b_n ?_
     |refine b_r ?_
     |refine b_e ?_
     |refine b_o rfl ?_
     |refine r_rt ?_
     |refine r_bk rfl ?_
     |refine r_ex rfl rfl ?_
     |refine sk_zero ?_
     |refine sk_succ ?_
     |refine wk_nil ?_
     |refine wk_cons ?_)
    refine r_nx () (fun j c hj hc=>?_)
    by_cases e:j=i
    ·subst e;rw[gc]at hc;cases hc
     exact⟨hdr,fun k p gp=>let w:=hw k p (List.getElem?_eq_some_iff.1 gp).1 gp;⟨w.1.1,w.2.1,fun _=>⟨w.1.2,w.2.2⟩⟩⟩
    ·exact hv j c (by omega) hc
 ·repeat' (first
   |refine a_n ?_
   |(refine k_V ?_;refine v_rv ?_))
  refine q_T ⟨fun w hw=>?_,fun i c hc=>(hv i c (by have:=(List.getElem?_eq_some_iff.1 hc).1;omega) hc).1,fun i c hc=>(hv i c (by have:=(List.getElem?_eq_some_iff.1 hc).1;omega) hc).2⟩
  obtain⟨i,hi⟩:=List.getElem?_of_mem hw
  exact hr i w (List.getElem?_eq_some_iff.1 hi).1 hi
def cnt(i:Int):List Int→Nat
 |[]=>0
 |g::r=>(if g=i then 1 else 0)+cnt i r
theorem cnt_app(i:Int):∀(l:List Int) (g:Int),cnt i (l++[g])=cnt i l+(if g=i then 1 else 0)
 |[],g=>by simp[cnt]
 |x::r,g=>by simp only[List.cons_append,cnt,cnt_app i r g];omega
theorem cnt_zero{i:Int}:∀{l:List Int},cnt i l=0↔i∉l
 |[]=>by simp[cnt]
 |x::r=>by
  simp only[cnt,List.mem_cons,not_or]
  by_cases h:x=i
  ·simp[h]
  ·have:=cnt_zero (i:=i) (l:=r)
   simp only[h,if_false,Nat.zero_add,this]
   exact⟨fun hh=>⟨fun e=>h e.symm,hh⟩,fun hh=>hh.2⟩
theorem cnt_nodup:∀{l:List Int},l.Nodup↔∀i,cnt i l≤1
 |[]=>by simp[cnt]
 |x::r=>by
  rw[List.nodup_cons,cnt_nodup (l:=r)]
  simp only[cnt]
  constructor
  ·rintro⟨h1,h2⟩ i
   by_cases h:x=i
   ·subst h
    have:=cnt_zero.2 h1
    simp[this]
   ·simp only[h,if_false];have:=h2 i;omega
  ·intro h
   refine⟨cnt_zero.1 ?_,fun i=>?_⟩
   ·have:=h x;simp only[if_true]at this;omega
   ·have:=h i;omega
def OK5(H:Heap)(j:Nat)(c:Cell):Prop:=(c.color=1→cnt j H.gray=1)∧(c.color≠1→cnt j H.gray=0)∧(c.color=2→¬Marking H→H.phase=3∧H.hand≤j)
theorem col_iff{H:Heap}(h2:R2 H):R5 H↔((¬Marking H→H.gray=[])∧(∀(j:Nat) c,H.cells[j]?=some c→OK5 H j c)∧∀g,g∈H.gray→0≤g∧g<H.cells.length):=by
 constructor
 ·intro h
  refine⟨fun hm=>(h.else_ hm).1,fun j c hc=>?_,fun g hg=>?_⟩
  ·have hgc:H.getC (j:Int)=c:=by unfold Heap.getC;rw[List.getD_eq_getElem?_getD];show(H.cells[j]?).getD _=_;rw[hc];rfl
   by_cases hm:Marking H
   ·obtain⟨m1,m2,m3⟩:=h.mark hm
    refine⟨fun hk=>?_,fun hk=>?_,fun _ hn=>absurd hm hn⟩
    ·have a1:=cnt_nodup.1 m1 j
     have a2:cnt j H.gray≠0:=fun e=>cnt_zero.1 e (m3 j c hc hk)
     omega
    ·refine cnt_zero.2 fun hg=>hk ?_
     have:=(m2 _ hg).2.2.2
     rw[hgc]at this;exact this
   ·obtain⟨m1,m2⟩:=h.else_ hm
    rw[OK5,m1]
    exact⟨fun hk=>absurd hk (m2 j c hc).1,fun _=>rfl,fun hk _=>(m2 j c hc).2 hk⟩
  ·by_cases hm:Marking H
   ·exact⟨((h.mark hm).2.1 g hg).1,((h.mark hm).2.1 g hg).2.1⟩
   ·rw[(h.else_ hm).1]at hg;cases hg
 ·rintro⟨g1,g2,g3⟩
  refine⟨fun hm=>⟨cnt_nodup.2 fun i=>?_,fun g hg=>?_,fun i c hc hk=>?_⟩,fun hm=>⟨g1 hm,fun i c hc=>?_⟩⟩
  ·by_cases hi:i∈H.gray
   ·obtain⟨i0,i1⟩:=g3 i hi
    obtain⟨c,hc⟩:∃c,H.cells[i.toNat]?=some c:=⟨_,List.getElem?_eq_getElem (by omega)⟩
    have h5:=g2 _ c hc
    unfold OK5 at h5
    rw[show((i.toNat:Nat):Int)=i by omega]at h5
    by_cases hk:c.color=1
    ·rw[h5.1 hk];exact Nat.le_refl _
    ·rw[h5.2.1 hk];omega
   ·rw[cnt_zero.2 hi];omega
  ·obtain⟨i0,i1⟩:=g3 g hg
   obtain⟨c,hc⟩:∃c,H.cells[g.toNat]?=some c:=⟨_,List.getElem?_eq_getElem (by omega)⟩
   have hgc:H.getC g=c:=by unfold Heap.getC;rw[List.getD_eq_getElem?_getD,hc];rfl
   have h5:=g2 _ c hc
   have hk:c.color=1:=by
    by_cases hk:c.color=1
    ·exact hk
    ·have:=h5.2.1 hk
     rw[show((g.toNat:Nat):Int)=g by omega]at this
     exact absurd hg (cnt_zero.1 this)
   refine⟨i0,i1,?_,by rw[hgc];exact hk⟩
   rw[hgc]
   rcases h2.each _ c hc with h|h|h
   ·have:=h.2.1.2.2.2.2.1;omega
   ·have:=h.2.1.2.2.2.2.1;omega
   ·exact h.1
  ·have:=(g2 i c hc).1 hk
   by_cases hi:(i:Int)∈H.gray
   ·exact hi
   ·rw[cnt_zero.2 hi]at this;omega
  ·have h5:=g2 i c hc
   refine⟨fun hk=>?_,fun hk=>h5.2.2 hk hm⟩
   have:=h5.1 hk
   rw[g1 hm]at this;simp[cnt]at this
theorem l1colors_q{m:Mem}{a:Nat}{x:HX}(h:Has m (hp a x))(h2:R2 x.H):Qt Tryz.prog 73 [ptr a] m (.bool (decide (R5 x.H))):=by
 have hb:=h.lens
 have hl:=x.len
 have hnc:(x.hdr.nc:Int)=x.xs.length:=rfl
 have hng:x.hdr.ng=x.gray.length:=rfl
 refine qt_of (fnA_of (fun h=>fn73 (by simp) h) ?_)
 refine v_seq ?_
 repeat' (first
  |(refine k_L ?_;refine a_p rfl ?_)
  |refine a_n ?_
  |(refine k_V ?_;refine v_reg ?_)
  |refine s_n ?_)
 refine g_cut (fun _:Unit=>[(0,.v (ptr a)),(3,.v (.bool (decide (Marking x.H))))]) (fun _=>[ro m]) (fun _=>True) ?_ (fun _ _=>?_)
 ·repeat' (first
   |(refine k_L ?_;first|refine a_p rfl ?_|(refine k_g ?_;first|refine a_gy rfl rfl ?_|refine a_gn rfl rfl ?_|(refine a_gd rfl (fun hb=>?_) (fun hb=>?_)<;>try(exfalso;omega)))|(refine k_l ?_;refine g_l rfl ?_))
   |refine a_n ?_
   |(refine k_V ?_;refine v_reg ?_)
   |refine s_n ?_)
  all_goals refine j_i () trivial (hl:=⟨rfl,?_,trivial⟩)
  all_goals (show SV.v (.bool _)=_;congr 1;refine bool_dec ?_;simp_all [Marking,HX.hdr,HX.H])
 refine g_cut (fun _:Unit=>[(0,.v (ptr a)),(3,.v (.bool (decide (Marking x.H))))]) (fun _=>[ro m]) (fun _=>¬Marking x.H→x.H.gray=[]) ?_ (fun _ hg0=>?_)
 ·repeat' (first
   |(refine k_L ?_;first|refine a_p rfl ?_|(refine k_g ?_;first|refine a_gy rfl rfl ?_|refine a_gn rfl rfl ?_|(refine a_gnd rfl (fun hb=>?_) (fun hb=>?_)<;>try(exfalso;omega)))|(refine k_l ?_;refine g_l rfl ?_))
   |refine a_n ?_
   |(refine k_V ?_;first|refine v_rv ?_|refine v_seq ?_|refine v_reg ?_|refine v_skip ?_|refine v_cf rfl ?_|(refine v_cd rfl (fun hb=>?_) (fun hb=>?_)<;>try(exfalso;omega)))
   |refine s_n ?_
   |refine s_r ?_)
  ·exact q_F fun h5=>by have:=(h5.else_ ‹_›).1;have e:x.hdr.ng=x.H.gray.length:=rfl;rw[this]at e;simp at e;omega
  all_goals refine j_i () (fun hm=>?_)
  ·exact List.eq_nil_of_length_eq_zero (by show x.gray.length=0;omega)
  ·exact absurd ‹Marking x.H› hm
 repeat' (first
  |(refine k_L ?_;first|refine a_p rfl ?_|(refine k_l ?_;refine g_l rfl ?_))
  |refine a_n ?_
  |(refine k_V ?_;first|refine v_seq ?_|refine v_reg ?_)
  |refine s_n ?_)
 refine g_range x.xs.length (fun _:Unit=>[(0,.v (ptr a)),(3,.v (.bool (decide (Marking x.H)))),(36,.v (.slice x.cd.a x.xs.length x.cd.cap))]) (fun _=>[ro m]) (fun i _=>∀(j:Nat) c,j<i→x.H.cells[j]?=some c→OK5 x.H j c) () (fun j c hj=>by omega) (fun i _ hi hv=>?_) (fun _ hv=>?_)
 ·obtain⟨y,gy,gc⟩:=HX.at hi
  have nx:OK5 x.H i y.c→∀(j:Nat) c,j<i+1→x.H.cells[j]?=some c→OK5 x.H j c:=by
   intro hp j c hj hc
   by_cases e:j=i
   ·subst e;rw[gc]at hc;cases hc;exact hp
   ·exact hv j c (by omega) hc
  repeat' (first
   |(refine k_L ?_;first|refine a_p rfl ?_|(refine k_l ?_;refine g_l rfl ?_)|(refine k_i ?_;refine g_i rfl rfl ?_)|(refine k_ls ?_;refine g_ls rfl ?_)|(refine k_st ?_;refine g_sw rfl rfl rfl rfl (Nat.le_of_ble_eq_true rfl) ?_)|(refine k_al ?_;refine a_al ?_))
   |refine a_n ?_
   |(refine k_V ?_;first|refine v_seq ?_|refine v_reg ?_)
   |refine s_n ?_
   |refine sk_zero ?_
   |refine sk_succ ?_
   |refine wk_nil ?_
   |refine wk_cons ?_)
  refine g_range x.gray.length (fun n:Nat=>[(0,.v (ptr a)),(3,.v (.bool (decide (Marking x.H)))),(4,.v (.int .i64 i)),(5,.box (csw y)),(6,.v (.int .i64 n)),(36,.v (.slice x.cd.a x.xs.length x.cd.cap)),(37,.v (.int .i64 x.xs.length)),(38,.v (.int .i64 i)),(46,.v (.slice x.gd.a x.gray.length x.gd.cap))]) (fun _=>[ro m]) (fun k n=>n≤k∧n=cnt i (x.gray.take k)) 0 ⟨by omega,rfl⟩ (fun k n hk hw=>?_) (fun n hw=>?_)
  ·obtain⟨hnk,hw⟩:=hw
   obtain⟨g,gg⟩:∃g,x.gray[k]?=some g:=⟨_,List.getElem?_eq_getElem hk⟩
   have htk:x.gray.take (k+1)=x.gray.take k++[g]:=by rw[List.take_add_one,gg];rfl
   repeat' (first
    |(refine k_L ?_;first|(refine k_ad ?_;refine g_ad rfl rfl ?_)|refine a_p rfl ?_|(refine k_l ?_;refine g_l rfl ?_)|(refine k_i ?_;refine g_i rfl rfl ?_))
    |refine a_n ?_
    |(refine k_V ?_;first|refine v_seq ?_|refine v_reg ?_|refine v_skip ?_|(refine v_cd rfl (fun hb=>?_) (fun hb=>?_)<;>try(exfalso;omega))))
   ·exact r_nx (n+1) ⟨by omega,by rw[htk,cnt_app,if_pos ‹_›,←hw]⟩
   ·exact r_nx n ⟨by omega,by rw[htk,cnt_app,if_neg ‹_›,←hw];rfl⟩
  ·obtain⟨_,hw⟩:=hw
   rw[List.take_length]at hw
   have hw':n=cnt (i:Int) x.H.gray:=hw
   have bad:¬OK5 x.H i y.c→¬R5 x.H:=fun hn h5=>hn (((col_iff h2).1 h5).2.1 i _ gc)
   repeat' (first
    |(refine k_L ?_;first|refine a_p rfl ?_|(refine k_g ?_;first|refine a_gy rfl rfl ?_|refine a_gn rfl rfl ?_|refine a_gu rfl ?_|(refine a_gd rfl (fun hb=>?_) (fun hb=>?_)<;>try(exfalso;omega))|(refine a_gne rfl (fun hb=>?_) (fun hb=>?_)<;>try(exfalso;omega))|(refine a_gnd rfl (fun hb=>?_) (fun hb=>?_)<;>try(exfalso;omega)))|(refine k_l ?_;refine g_l rfl ?_))
    |refine a_n ?_
    |(refine k_V ?_;first|refine v_rv ?_|refine v_seq ?_|refine v_reg ?_|refine v_skip ?_|refine v_ct rfl ?_|refine v_cf rfl ?_|(refine v_cd rfl (fun hb=>?_) (fun hb=>?_)<;>try(exfalso;omega)))
    |refine s_r ?_
    |refine r_rt ?_)
   ·exact q_F (bad fun h5=>by have:=h5.1 ‹_›;omega)
   ·exact r_nx () (nx ⟨fun _=>by omega,fun hk=>absurd ‹y.c.color=1› hk,fun hk=>absurd hk ‹_›⟩)
   ·exact q_F (bad fun h5=>by have:=h5.2.1 ‹_›;omega)
   ·exact q_F (bad fun h5=>absurd (h5.2.2 ‹_› ‹_›).1 ‹_›)
   ·exact q_F (bad fun h5=>absurd (h5.2.2 ‹_› ‹_›).2 (by show ¬x.hdr.hand≤_;omega))
   ·exact r_nx () (nx ⟨fun hk=>absurd hk ‹_›,fun hk=>by omega,fun _ _=>⟨‹_›,by show x.hdr.hand≤_;omega⟩⟩)
   ·exact r_nx () (nx ⟨fun hk=>absurd hk ‹_›,fun hk=>by omega,fun _ hn=>absurd ‹Marking x.H› hn⟩)
   ·exact r_nx () (nx ⟨fun hk=>absurd hk ‹_›,fun hk=>by omega,fun hk=>absurd hk ‹_›⟩)
 ·repeat' (first
   |(refine k_L ?_;first|refine a_p rfl ?_|(refine k_l ?_;refine g_l rfl ?_))
   |refine a_n ?_
   |(refine k_V ?_;first|refine v_seq ?_|refine v_reg ?_)
   |refine s_n ?_)
  refine g_range x.gray.length (fun _:Unit=>[(0,.v (ptr a)),(100,.v (.slice x.gd.a x.gray.length x.gd.cap))]) (fun _=>[ro m]) (fun k _=>∀(j:Nat) g,j<k→x.gray[j]?=some g→0≤g∧g<x.H.cells.length) () (fun j c hj=>by omega) (fun k _ hk hw=>?_) (fun _ hw=>?_)
  ·obtain⟨g,gg⟩:∃g,x.gray[k]?=some g:=⟨_,List.getElem?_eq_getElem hk⟩
   have hgm:=List.mem_of_getElem? gg
   repeat' (first
    |(refine k_L ?_;first|refine a_p rfl ?_|(refine k_g ?_;first|refine a_gy rfl rfl ?_|refine a_gn rfl rfl ?_|(refine a_gd rfl (fun hb=>?_) (fun hb=>?_)<;>try(exfalso;omega)))|(refine k_l ?_;refine g_l rfl ?_)|(refine k_i ?_;refine g_i rfl rfl ?_))
    |refine a_n ?_
    |(refine k_V ?_;first|refine v_rv ?_|refine v_seq ?_|refine v_reg ?_|refine v_skip ?_|refine v_ct rfl ?_|(refine v_cd rfl (fun hb=>?_) (fun hb=>?_)<;>try(exfalso;omega)))
    |refine s_r ?_
    |refine r_rt ?_)
   ·exact q_F fun h5=>by have:=(((col_iff h2).1 h5).2.2 g hgm).1;omega
   ·exact q_F fun h5=>by have:=(((col_iff h2).1 h5).2.2 g hgm).2;omega
   ·refine r_nx () (fun j u hj hu=>?_)
    by_cases e:j=k
    ·subst e;rw[gg]at hu;cases hu;omega
    ·exact hw j u (by omega) hu
  ·repeat' (first
    |refine a_n ?_
    |(refine k_V ?_;refine v_rv ?_))
   refine q_T ((col_iff h2).2 ⟨hg0,fun j c hc=>hv j c (by have:=(List.getElem?_eq_some_iff.1 hc).1;omega) hc,fun g hg=>?_⟩)
   obtain⟨k,hk⟩:=List.getElem?_of_mem hg
   exact hw k g (List.getElem?_eq_some_iff.1 hk).1 hk
theorem l1sizes_q{m:Mem}{a:Nat}{x:HX}(h:Has m (hp a x)):Qt Tryz.prog 69 [ptr a] m (.bool (decide (R1 x.H))):=by
 have hb:=h.lens
 refine qt_of (fnA_of (fun h=>fn69 (by simp) h) ?_)
 repeat' (first
  |(refine k_L ?_;first|(refine k_ml ?_;refine g_ml rfl rfl ?_)|refine a_p rfl ?_|(refine k_g ?_;first|refine a_gy rfl rfl ?_|refine a_gn rfl rfl ?_|(refine a_gd rfl (fun hb=>?_) (fun hb=>?_)<;>try(exfalso;omega))|(refine a_gne rfl (fun hb=>?_) (fun hb=>?_)<;>try(exfalso;omega))|(refine a_gnd rfl (fun hb=>?_) (fun hb=>?_)<;>try(exfalso;omega)))|(refine k_l ?_;refine g_l rfl ?_)|(refine k_q ?_;refine a_q rfl (fun m hm=>spec.l1inQ) ?_)|(refine k_c ?_;refine a_cq rfl (fun m hm=>spec.l1inQ) ?_))
  |refine a_n ?_
  |(refine k_V ?_;first|refine v_rv ?_|refine v_seq ?_|refine v_reg ?_|refine v_dreg ?_|refine v_ret ?_|refine v_skip ?_|refine v_ct rfl ?_|(refine v_cd rfl (fun hb=>?_) (fun hb=>?_)<;>try(exfalso;omega))|(refine v_cnd rfl (fun hb=>?_) (fun hb=>?_)<;>try(exfalso;omega)))
  |refine s_r ?_)
 all_goals refine q_B (fun _ _=>rfl) ?_
 all_goals (rw[R1_iff];(try simp only[decide_eq_true_eq]);simp only[HX.hdr,Hdr.s_room,Hdr.s_used,Hdr.s_born,Hdr.s_phase,Hdr.s_hand,Hdr.s_sub,Hdr.s_per,Hdr.s_start,Hdr.s_rounds,Hdr.s_forced,Hdr.s_rd,Hdr.s_cd,Hdr.s_gd,HX.H,List.length_map]at*)
 all_goals simp_all
 all_goals omega
theorem l1units_q{m:Mem}{a:Nat}{x:HX}(h:Has m (hp a x))(h1:R1 x.H)(h2:R2 x.H):Qt Tryz.prog 71 [ptr a] m (.int .i64 (unitsN x.H.cells)):=by
 have hc:=h1.cells
 have hr:=h1.room
 have hl:=x.len
 have hu:=unitsN_le (cs:=x.H.cells) (fun c=>h2.pl)
 refine qt_of (fnA_of (fun h=>fn71 (by simp) h) ?_)
 repeat' (first
  |(refine k_L ?_;first|refine a_p rfl ?_|(refine k_l ?_;refine g_l rfl ?_))
  |refine a_n ?_
  |(refine k_V ?_;first|refine v_seq ?_|refine v_reg ?_)
  |refine s_n ?_)
 refine g_range x.xs.length (fun n:Int=>[(3,.v (.int .i64 n)),(9,.v (.slice x.cd.a x.xs.length x.cd.cap))]) (fun _=>[ro m]) (fun i n=>n=unitsN (x.H.cells.take i)) 0 rfl (fun i n hi hn=>?_) (fun n hn=>?_)
 ·obtain⟨y,gy,gc⟩:=HX.at hi
  have hu1:=hu i
  have hu2:=hu (i+1)
  have hu3:=unitsN_nn (x.H.cells.take i)
  have ht:=unitsN_take gc
  have hp:=h2.pl (List.mem_of_getElem? gc)
  unfold Cell.units at ht
  repeat' (first
   |(refine k_L ?_;first|(refine k_ad ?_;refine g_ad rfl rfl ?_)|refine a_p rfl ?_|(refine k_i ?_;refine g_i rfl rfl ?_)|(refine k_ls ?_;refine g_ls rfl ?_)|(refine k_st ?_;refine g_sw rfl rfl rfl rfl (Nat.le_of_ble_eq_true rfl) ?_)|(refine k_al ?_;refine a_al ?_))
   |refine a_n ?_
   |(refine k_V ?_;first|refine v_seq ?_|refine v_reg ?_|refine v_skip ?_|(refine v_cd rfl (fun hb=>?_) (fun hb=>?_)<;>try(exfalso;omega)))
   |refine sk_zero ?_
   |refine sk_succ ?_
   |refine wk_nil ?_
   |refine wk_cons ?_)
  ·exact r_nx (n+(1+y.c.pairs.length)) (by rw[ht,hn,if_pos ‹_›])
  ·exact r_nx n (by rw[ht,hn,if_neg ‹_›];omega)
 ·rw[List.take_of_length_le (by omega)]at hn
  subst hn
  repeat' (first
   |(refine k_L ?_;refine a_p rfl ?_)
   |refine a_n ?_
   |(refine k_V ?_;first|refine v_seq ?_|refine v_reg ?_|refine v_ret ?_))
  exact fa_q (by simp) (fun _ _=>rfl) rfl
theorem l1closing_q{m:Mem}{a:Nat}{x:HX}(h:Has m (hp a x)):Qt Tryz.prog 76 [ptr a] m (.bool (decide (R8 x.H))):=by
 have hb:=h.lens
 have hl:=x.len
 refine qt_of (fnA_of (fun h=>fn76 (by simp) h) ?_)
 repeat' (first
  |(refine k_L ?_;first|refine a_p rfl ?_|(refine k_l ?_;refine g_l rfl ?_))
  |refine a_n ?_
  |(refine k_V ?_;first|refine v_seq ?_|refine v_reg ?_)
  |refine s_n ?_)
 refine g_range x.xs.length (fun _:Unit=>[(0,.v (ptr a)),(8,.v (.slice x.cd.a x.xs.length x.cd.cap))]) (fun _=>[ro m]) (fun i _=>∀(j:Nat) c,j<i→x.H.cells[j]?=some c→x.H.phase=6→x.H.hand≤j→c.state≠2) () (fun j c hj=>by omega) (fun i _ hi hv=>?_) (fun _ hv=>?_)
 ·obtain⟨y,gy,gc⟩:=HX.at hi
  have nx:(x.H.phase=6→x.H.hand≤i→y.c.state≠2)→∀(j:Nat) c,j<i+1→x.H.cells[j]?=some c→x.H.phase=6→x.H.hand≤j→c.state≠2:=by
   intro hp j c hj hc
   by_cases e:j=i
   ·subst e;rw[gc]at hc;cases hc;exact hp
   ·exact hv j c (by omega) hc
  repeat' (first
   |(refine k_L ?_;first|refine a_p rfl ?_|(refine k_g ?_;first|refine a_gy rfl rfl ?_|refine a_gn rfl rfl ?_|(refine a_gd rfl (fun hb=>?_) (fun hb=>?_)<;>try(exfalso;omega)))|(refine k_l ?_;refine g_l rfl ?_)|(refine k_i ?_;refine g_i rfl rfl ?_)|(refine k_ls ?_;refine g_ls rfl ?_)|(refine k_st ?_;refine g_sw rfl rfl rfl rfl (Nat.le_of_ble_eq_true rfl) ?_)|(refine k_al ?_;refine a_al ?_))
   |refine a_n ?_
   |(refine k_V ?_;first|refine v_rv ?_|refine v_seq ?_|refine v_reg ?_|refine v_skip ?_|refine v_cf rfl ?_|(refine v_cd rfl (fun hb=>?_) (fun hb=>?_)<;>try(exfalso;omega)))
   |refine s_r ?_
   |refine r_rt ?_
   |refine sk_zero ?_
   |refine sk_succ ?_
   |refine wk_nil ?_
   |refine wk_cons ?_)
  ·exact q_F fun h8=>absurd ‹y.c.state=2› (h8 ‹_› i _ gc (by show x.hdr.hand≤_;omega))
  all_goals refine r_nx () (nx fun p1 p2=>?_)
  all_goals first|exact absurd p1 ‹_›|assumption|(exfalso;have p3:x.hdr.hand≤(i:Int):=p2;omega)
 ·repeat' (first
   |refine a_n ?_
   |(refine k_V ?_;refine v_rv ?_))
  exact q_T fun h6 i c hc hh=>hv i c (by have:=(List.getElem?_eq_some_iff.1 hc).1;omega) hc h6 hh
theorem l1hands_q{m:Mem}{a:Nat}{x:HX}(h:Has m (hp a x))(h1:R1 x.H)(h5:R5 x.H):Qt Tryz.prog 74 [ptr a] m (.bool (decide (R6 x.H))):=by
 have hb:=h.lens
 have hh:=h1.hand
 have hl:=x.len
 have hnc:(x.hdr.nc:Int)=x.xs.length:=rfl
 refine qt_of (fnA_of (fun h=>fn74 (by simp) h) ?_)
 by_cases hp2:x.phase=2
 ·have hm:=(h5.mark (.inr hp2)).2.1
  have hp2':x.hdr.phase=2:=hp2
  cases hg:x.gray with
  |nil=>
   have hgl:(x.hdr.ng:Int)=0:=by simp[HX.hdr,hg]
   have hg':x.H.gray=[]:=hg
   repeat' (first
    |(refine k_L ?_;first|refine a_p rfl ?_|(refine k_l ?_;refine g_l rfl ?_))
    |refine a_n ?_
    |(refine k_V ?_;first|refine v_rv ?_|refine v_seq ?_|refine v_reg ?_|refine v_bs ?_|refine v_ret ?_|refine v_skip ?_|(refine v_cd rfl (fun hb=>?_) (fun hb=>?_)<;>try(exfalso;omega))|(refine v_cn rfl (fun hb=>?_) (fun hb=>?_)<;>try(exfalso;omega)))
    |refine s_r ?_
    |refine b_r ?_)
   all_goals refine q_B (fun _ _=>rfl) ?_
   all_goals simp_all [R6,HX.hdr,Hdr.s_room,Hdr.s_used,Hdr.s_born,Hdr.s_phase,Hdr.s_hand,Hdr.s_sub,Hdr.s_per,Hdr.s_start,Hdr.s_rounds,Hdr.s_forced,Hdr.s_rd,Hdr.s_cd,Hdr.s_gd,HX.H]
  |cons g r=>
   have hgl1:(x.hdr.ng:Int)=r.length+1:=by simp[HX.hdr,hg]
   have hg':x.H.gray=g::r:=hg
   obtain⟨g0,g1,_⟩:=hm g (by rw[hg'];simp)
   obtain⟨y,gy,gc⟩:=HX.atI (x:=x) g0 (by omega)
   have g00:x.gray[(0:Int).toNat]?=some g:=by rw[hg];rfl
   repeat' (first
    |(refine k_L ?_;first|refine a_p rfl ?_|(refine k_l ?_;refine g_l rfl ?_)|(refine k_i ?_;refine g_i rfl rfl ?_))
    |refine a_n ?_
    |(refine k_V ?_;first|refine v_rv ?_|refine v_seq ?_|refine v_reg ?_|refine v_dreg ?_|refine v_bs ?_|refine v_ret ?_|refine v_skip ?_|(refine v_cd rfl (fun hb=>?_) (fun hb=>?_)<;>try(exfalso;omega))|(refine v_cn rfl (fun hb=>?_) (fun hb=>?_)<;>try(exfalso;omega)))
    |refine s_r ?_
    |refine b_r ?_)
   all_goals refine q_B (fun _ _=>rfl) ?_
   all_goals simp_all [R6,HX.hdr,Hdr.s_room,Hdr.s_used,Hdr.s_born,Hdr.s_phase,Hdr.s_hand,Hdr.s_sub,Hdr.s_per,Hdr.s_start,Hdr.s_rounds,Hdr.s_forced,Hdr.s_rd,Hdr.s_cd,Hdr.s_gd]
   all_goals simp_all [HX.H]
 ·have hp2':¬x.hdr.phase=2:=hp2
  have hh':0≤x.hdr.hand∧x.hdr.hand≤x.hdr.nc:=by rw[hl]at hh;exact hh
  by_cases hh5:x.hand<x.xs.length
  ·obtain⟨y,gy,gc⟩:=HX.atI (x:=x) hh.1 hh5
   have hh5':x.hdr.hand<x.hdr.nc:=hh5
   have gc':x.H.getC x.hand=y.c:=gc
   repeat' (first
    |(refine k_L ?_;first|refine a_p rfl ?_|(refine k_g ?_;first|refine a_gy rfl rfl ?_|refine a_gn rfl rfl ?_|(refine a_gd rfl (fun hb=>?_) (fun hb=>?_)<;>try(exfalso;omega)))|(refine k_l ?_;refine g_l rfl ?_)|(refine k_i ?_;refine g_i rfl rfl ?_)|(refine k_q ?_;refine a_q rfl (fun m hm=>l1used_q (i:=x.hand) (has_g h hm) hh.1 (by rw[hl];exact hh5)) ?_))
    |refine a_n ?_
    |(refine k_V ?_;first|refine v_seq ?_|refine v_reg ?_|refine v_dreg ?_|refine v_bs ?_|refine v_ret ?_|refine v_skip ?_|(refine v_cd rfl (fun hb=>?_) (fun hb=>?_)<;>try(exfalso;omega))|(refine v_cn rfl (fun hb=>?_) (fun hb=>?_)<;>try(exfalso;omega)))
    |refine s_r ?_
    |refine b_r ?_)
   all_goals refine q_B (fun _ _=>rfl) ?_
   all_goals (try simp only[decide_eq_true_eq])
   all_goals simp only[HX.hdr,Hdr.s_room,Hdr.s_used,Hdr.s_born,Hdr.s_phase,Hdr.s_hand,Hdr.s_sub,Hdr.s_per,Hdr.s_start,Hdr.s_rounds,Hdr.s_forced,Hdr.s_rd,Hdr.s_cd,Hdr.s_gd]at*
   all_goals unfold R6
   all_goals simp_all
   all_goals simp_all [HX.H]
  ·have hh5':¬(x.hdr.hand<x.hdr.nc):=hh5
   repeat' (first
    |(refine k_L ?_;first|refine a_p rfl ?_|(refine k_g ?_;first|refine a_gy rfl rfl ?_|refine a_gn rfl rfl ?_|(refine a_gd rfl (fun hb=>?_) (fun hb=>?_)<;>try(exfalso;omega)))|(refine k_l ?_;refine g_l rfl ?_))
    |refine a_n ?_
    |(refine k_V ?_;first|refine v_seq ?_|refine v_reg ?_|refine v_dreg ?_|refine v_bs ?_|refine v_ret ?_|refine v_skip ?_|refine v_ct rfl ?_|(refine v_cd rfl (fun hb=>?_) (fun hb=>?_)<;>try(exfalso;omega)))
    |refine s_r ?_
    |refine b_r ?_)
   all_goals refine q_B (fun _ _=>rfl) ?_
   all_goals (try simp only[decide_eq_true_eq])
   all_goals simp only[HX.hdr,Hdr.s_room,Hdr.s_used,Hdr.s_born,Hdr.s_phase,Hdr.s_hand,Hdr.s_sub,Hdr.s_per,Hdr.s_start,Hdr.s_rounds,Hdr.s_forced,Hdr.s_rd,Hdr.s_cd,Hdr.s_gd]at*
   all_goals unfold R6
   all_goals simp_all
   all_goals simp_all [HX.H]
theorem bool_d{p:Prop}{_:Decidable p}{b:Bool}(h:b=true↔p):Value.bool b=.bool (decide p):=by congr 1;rw[Bool.eq_iff_iff,h];simp
theorem scanned_le{H:Heap}(h1:R1 H)(h6:R6 H){i:Nat}{c:Cell}(hc:H.cells[i]?=some c):0≤scanned H i c∧scanned H i c≤c.pairs.length:=by
 unfold scanned
 split
 ·omega
 ·split
  ·rename_i hg
   unfold R6 at h6
   rw[if_neg (by rw[hg.1];decide),if_pos hg.1]at h6
   cases hgr:H.gray with
   |nil=>rw[hgr]at hg;simp at hg
   |cons g r=>
    rw[hgr]at hg h6
    have hgi:g=(i:Int):=by simpa using hg.2
    have h3:=h6.2
    simp only[hgi]at h3
    have hgc:H.getC (i:Int)=c:=by unfold Heap.getC;rw[List.getD_eq_getElem?_getD];show(H.cells[i]?).getD _=_;rw[hc];rfl
    rw[hgc]at h3
    exact⟨h1.sub.1,h3⟩
  ·omega
theorem l1marks_q{m:Mem}{a:Nat}{x:HX}(h:Has m (hp a x))(h1:R1 x.H)(h2:R2 x.H)(h4:R4 x.H)(h6:R6 x.H):Qt Tryz.prog 75 [ptr a] m (.bool (decide (R7 x.H))):=by
 have hb:=h.lens
 have hl:=x.len
 have hnc:(x.hdr.nc:Int)=x.xs.length:=rfl
 refine qt_of (fnA_of (fun h=>fn75 (by simp) h) ?_)
 refine v_seq ?_
 repeat' (first
  |(refine k_L ?_;refine a_p rfl ?_)
  |refine a_n ?_
  |(refine k_V ?_;refine v_reg ?_)
  |refine s_n ?_)
 refine g_cut (fun _:Unit=>[(0,.v (ptr a))]) (fun _=>[ro m]) (fun _=>Marking x.H) ?_ (fun _ hmk=>?_)
 ·repeat' (first
   |(refine k_L ?_;first|refine a_p rfl ?_|(refine k_g ?_;first|refine a_gy rfl rfl ?_|refine a_gn rfl rfl ?_|(refine a_gne rfl (fun hb=>?_) (fun hb=>?_)<;>try(exfalso;omega)))|(refine k_l ?_;refine g_l rfl ?_))
   |refine a_n ?_
   |(refine k_V ?_;first|refine v_rv ?_|refine v_seq ?_|refine v_reg ?_|refine v_skip ?_|refine v_cf rfl ?_|(refine v_cn rfl (fun hb=>?_) (fun hb=>?_)<;>try(exfalso;omega)))
   |refine s_n ?_
   |refine s_r ?_)
  ·exact q_T fun hk=>by rcases hk with hk|hk<;>contradiction
  ·exact j_i () (.inr ‹_›)
  ·exact j_i () (.inl ‹_›)
 have g0:(∃g,x.gray[(0:Int).toNat]?=some g∧x.H.gray.head?=some g)∨(x.hdr.ng:Int)=0∧x.H.gray.head?=none:=by
  show(∃g,x.gray[(0:Int).toNat]?=some g∧x.gray.head?=some g)∨(x.gray.length:Int)=0∧x.gray.head?=none
  cases x.gray with
  |nil=>exact .inr ⟨rfl,rfl⟩
  |cons g r=>exact .inl ⟨g,rfl,rfl⟩
 have hng:x.hdr.ng=x.gray.length:=rfl
 repeat' (first
  |(refine k_L ?_;first|refine a_p rfl ?_|(refine k_l ?_;refine g_l rfl ?_))
  |refine a_n ?_
  |(refine k_V ?_;first|refine v_seq ?_|refine v_reg ?_)
  |refine s_n ?_)
 refine g_range x.xs.length (fun _:Unit=>[(0,.v (ptr a)),(23,.v (.slice x.cd.a x.xs.length x.cd.cap))]) (fun _=>[ro m]) (fun i _=>∀(j:Nat) c,j<i→x.H.cells[j]?=some c→OK7 x.H j c) () (fun j c hj=>by omega) (fun i _ hi hv=>?_) (fun _ hv=>?_)
 ·obtain⟨y,gy,gc⟩:=HX.at hi
  have hbp:y.c.pairs.length≤140737488355328:=by obtain⟨b,l,s⟩:=h;exact(kn_t (kn_t (kn_h (kb_cp gy))):Kn (hp a x) _).out b s
  have hsc:(if y.c.color=2 then(y.c.pairs.length:Int)else if x.hdr.phase=2∧x.H.gray.head?=some (i:Int)then x.hdr.sub else 0)=scanned x.H i y.c:=rfl
  have hroot:(y.c.last=1∨y.c.last=2)→Root y.c:=fun hl=>⟨by
   rcases h2.each i _ gc with h|h|h
   ·have:=h.2.1.2.2.1;omega
   ·have:=h.2.1.2.2.1;omega
   ·exact h.1,hl⟩
  refine v_seq ?_
  repeat' (first
   |(refine k_L ?_;first|refine a_p rfl ?_|(refine k_i ?_;refine g_i rfl rfl ?_)|(refine k_ls ?_;refine g_ls rfl ?_)|(refine k_st ?_;refine g_sw rfl rfl rfl rfl (Nat.le_of_ble_eq_true rfl) ?_)|(refine k_al ?_;refine a_al ?_))
   |refine a_n ?_
   |(refine k_V ?_;refine v_reg ?_)
   |refine s_n ?_
   |refine sk_zero ?_
   |refine sk_succ ?_
   |refine wk_nil ?_
   |refine wk_cons ?_)
  refine g_cut (fun _:Unit=>[(0,.v (ptr a)),(3,.v (.int .i64 i)),(4,.box (csw y)),(5,.v (.bool (decide (y.c.last=1∨y.c.last=2)))),(23,.v (.slice x.cd.a x.xs.length x.cd.cap)),(24,.v (.int .i64 x.xs.length)),(25,.v (.int .i64 i))]) (fun _=>[ro m]) (fun _=>True) ?_ (fun _ _=>?_)
  ·repeat' (first
    |(refine k_L ?_;first|refine a_p rfl ?_|(refine k_g ?_;first|refine a_gy rfl rfl ?_|refine a_gn rfl rfl ?_|(refine a_gd rfl (fun hb=>?_) (fun hb=>?_)<;>try(exfalso;omega))))
    |refine a_n ?_
    |(refine k_V ?_;refine v_reg ?_)
    |refine s_n ?_)
   all_goals refine j_i () trivial (hl:=⟨rfl,rfl,rfl,?_,rfl,rfl,rfl,trivial⟩)
   all_goals (show SV.v (.bool _)=_;congr 1;refine bool_d ?_;simp_all)
  refine g_cut (fun _:Unit=>[(0,.v (ptr a)),(3,.v (.int .i64 i)),(4,.box (csw y)),(23,.v (.slice x.cd.a x.xs.length x.cd.cap)),(24,.v (.int .i64 x.xs.length)),(25,.v (.int .i64 i))]) (fun _=>[ro m]) (fun _=>Root y.c→y.c.color=0→x.hdr.phase≠2∧x.hdr.hand≤i) ?_ (fun _ hr=>?_)
  ·repeat' (first
    |(refine k_L ?_;first|refine a_p rfl ?_|(refine k_g ?_;first|refine a_gy rfl rfl ?_|refine a_gn rfl rfl ?_|refine a_gu rfl ?_|(refine a_gd rfl (fun hb=>?_) (fun hb=>?_)<;>try(exfalso;omega)))|(refine k_l ?_;refine g_l rfl ?_))
    |refine a_n ?_
    |(refine k_V ?_;first|refine v_rv ?_|refine v_seq ?_|refine v_reg ?_|refine v_skip ?_|refine v_ct rfl ?_|refine v_cf rfl ?_|(refine v_cd rfl (fun hb=>?_) (fun hb=>?_)<;>try(exfalso;omega)))
    |refine s_n ?_
    |refine s_r ?_
    |refine r_rt ?_)
   ·exact q_F fun h7=>absurd ‹x.hdr.phase=2› ((h7 ‹_› i _ gc).1 (hroot ‹_›) ‹_›).1
   ·exact q_F fun h7=>absurd ((h7 ‹_› i _ gc).1 (hroot ‹_›) ‹_›).2 (by show ¬x.hdr.hand≤_;omega)
   all_goals refine j_i () (fun r1 r2=>?_)
   ·exact⟨‹_›,by omega⟩
   all_goals first|exact absurd r1.2 ‹_›|exact absurd r2 ‹_›
  refine v_seq ?_
  repeat' (first
   |(refine k_L ?_;refine a_p rfl ?_)
   |refine a_n ?_
   |(refine k_V ?_;refine v_reg ?_)
   |refine s_n ?_)
  refine g_cut (fun n:Int=>[(0,.v (ptr a)),(4,.box (csw y)),(6,.v (.int .i64 n)),(23,.v (.slice x.cd.a x.xs.length x.cd.cap)),(24,.v (.int .i64 x.xs.length)),(25,.v (.int .i64 i))]) (fun _=>[ro m]) (fun n=>n=scanned x.H i y.c) ?_ (fun n hn=>?_)
  ·rw[←hsc]
   rcases g0 with⟨g,g0,g1⟩|⟨g0,g1⟩
   ·have hlg:=(List.getElem?_eq_some_iff.1 g0).1
    have hlg2:(0:Int)<x.hdr.ng:=by rw[hng];have:(0:Int).toNat=0:=rfl;omega
    repeat' (first
     |(refine k_L ?_;first|refine a_p rfl ?_|(refine k_g ?_;first|refine a_gy rfl rfl ?_|refine a_gn rfl rfl ?_|(refine a_gd rfl (fun hb=>?_) (fun hb=>?_)<;>try(exfalso;omega)))|(refine k_l ?_;refine g_l rfl ?_)|(refine k_i ?_;refine g_i rfl rfl ?_))
     |refine a_n ?_
     |(refine k_V ?_;first|refine v_seq ?_|refine v_reg ?_|refine v_skip ?_|refine v_cf rfl ?_|(refine v_cd rfl (fun hb=>?_) (fun hb=>?_)<;>try(exfalso;omega)))
     |refine s_n ?_)
    all_goals refine j_i _ ?_
    all_goals simp_all
   ·repeat' (first
     |(refine k_L ?_;first|refine a_p rfl ?_|(refine k_g ?_;first|refine a_gy rfl rfl ?_|refine a_gn rfl rfl ?_|(refine a_gd rfl (fun hb=>?_) (fun hb=>?_)<;>try(exfalso;omega)))|(refine k_l ?_;refine g_l rfl ?_))
     |refine a_n ?_
     |(refine k_V ?_;first|refine v_seq ?_|refine v_reg ?_|refine v_skip ?_|refine v_cf rfl ?_|(refine v_cd rfl (fun hb=>?_) (fun hb=>?_)<;>try(exfalso;omega)))
     |refine s_n ?_)
    all_goals refine j_i _ ?_
    all_goals simp_all
  have hn0:0≤n∧n≤y.c.pairs.length:=by rw[hn];exact scanned_le h1 h6 gc
  refine v_seq ?_
  repeat' (first
   |(refine k_L ?_;refine a_p rfl ?_)
   |refine a_n ?_
   |(refine k_V ?_;refine v_reg ?_)
   |refine s_n ?_)
  refine v_blk ?_
  refine v_loop (fun k:Nat=>[(0,.v (ptr a)),(4,.box (csw y)),(6,.v (.int .i64 n)),(7,.v (.int .i64 k)),(23,.v (.slice x.cd.a x.xs.length x.cd.cap)),(24,.v (.int .i64 x.xs.length)),(25,.v (.int .i64 i))]) (fun _=>[ro m])
   (fun f k=>f=n.toNat-k∧(k:Int)≤n∧∀(j:Nat) p,j<k→y.c.pairs[j]?=some p→¬White x.H p.key∧¬White x.H p.val) ⟨_,0,⟨rfl,rfl,rfl,rfl,rfl,rfl,rfl,trivial⟩,Ent.refl _,rfl,by omega,fun j c hj=>by omega⟩ ?_
  rintro f k ⟨rfl,hk,hw⟩
  by_cases hkt:(k:Int)<n
  ·obtain⟨p,gp⟩:∃p,y.c.pairs[k]?=some p:=⟨_,List.getElem?_eq_getElem (by omega)⟩
   obtain⟨f1,f2,_⟩:=h4.pairs i _ gc k p gp
   repeat' (first
    |(refine k_L ?_;first|(refine k_ad ?_;refine g_ad rfl rfl ?_)|refine a_p rfl ?_|(refine k_g ?_;first|refine a_gy rfl rfl ?_|refine a_gn rfl rfl ?_|(refine a_gd rfl (fun hb=>?_) (fun hb=>?_)<;>try(exfalso;omega)))|(refine k_i ?_;refine g_i rfl rfl ?_)|(refine k_ls ?_;refine g_ls rfl ?_)|(refine k_c ?_;first|refine a_cq rfl (fun m hm=>l1white_q (w:=p.key) (has_g h hm) f1) ?_|refine a_cq rfl (fun m hm=>l1white_q (w:=p.val) (has_g h hm) f2) ?_))
    |refine a_n ?_
    |(refine k_V ?_;first|refine v_rv ?_|refine v_seq ?_|refine v_reg ?_|refine v_bs ?_|refine v_skip ?_|refine v_ct rfl ?_|(refine v_cd rfl (fun hb=>?_) (fun hb=>?_)<;>try(exfalso;omega)))
    |refine s_n ?_
    |refine s_r ?_
    |refine b_r ?_
    |refine r_rt ?_)
   ·exact q_F fun h7=>((h7 hmk i _ gc).2 k p gp (by rw[←hn];omega)).1 ‹_›
   ·exact q_F fun h7=>((h7 hmk i _ gc).2 k p gp (by rw[←hn];omega)).2 ‹_›
   ·refine⟨_,k+1,?_,⟨rfl,rfl,rfl,rfl,rfl,rfl,rfl,trivial⟩,Ent.refl _,rfl,by omega,fun j q hj hq=>?_⟩
    ·omega
    ·by_cases e:j=k
     ·subst e;rw[gp]at hq;cases hq;exact⟨‹_›,‹_›⟩
     ·exact hw j q (by omega) hq
  ·repeat' (first
    |(refine k_L ?_;refine a_p rfl ?_)
    |refine a_n ?_
    |(refine k_V ?_;first|refine v_seq ?_|refine v_reg ?_|refine v_exit ?_|(refine v_cd rfl (fun hb=>?_) (fun hb=>?_)<;>try(exfalso;omega)))
    |refine s_e ?_
    |refine b_e ?_)
   refine r_nx () (fun j c hj hc=>?_)
   by_cases e:j=i
   ·subst e;rw[gc]at hc;cases hc
    exact⟨hr,fun k' p gp hk'=>hw k' p (by rw[←hn]at hk';omega) gp⟩
   ·exact hv j c (by omega) hc
 ·repeat' (first
   |refine a_n ?_
   |(refine k_V ?_;refine v_rv ?_))
  exact q_T fun hm i c hc=>hv i c (by have:=(List.getElem?_eq_some_iff.1 hc).1;omega) hc
theorem specHeapOk_q{m:Mem}{x:HX}(h:Has m x.body):Qt Tryz.prog 30 [x.v] m (.int .i64 (okH x.H)):=by
 refine qt_of (fnA_of (fun h=>fn30 (by simp) h) ?_)
 refine v_seq (v_reg (a_nwh x rfl (fun b=>?_)))
 have hs:∀m',star [hdA b x.hdr,ro m] m'→Has m' (hp b x):=fun m' s=>has_new h s pmt (F:=[])
 repeat' (first
  |(refine k_L ?_;refine a_p rfl ?_)
  |refine a_n ?_
  |refine s_n ?_)
 refine v_seq ?_
 repeat' (first
  |(refine k_L ?_;refine a_p rfl ?_)
  |refine a_n ?_
  |(refine k_V ?_;refine v_reg ?_)
  |refine s_n ?_)
 refine g_cut (fun _:Unit=>[(1,.v (ptr b)),(3,.v (ptr b))]) (fun _=>[hdA b x.hdr,ro m]) (fun _=>R1 x.H) ?_ (fun _ h1=>?_)
 ·repeat' (first
   |(refine k_L ?_;first|refine a_p rfl ?_|(refine k_c ?_;refine a_cq rfl (fun m hm=>l1sizes_q (hs m hm)) ?_))
   |refine a_n ?_
   |(refine k_V ?_;first|refine v_rv ?_|refine v_seq ?_|refine v_reg ?_|refine v_skip ?_|(refine v_cnd rfl (fun hb=>?_) (fun hb=>?_)<;>try(exfalso;omega)))
   |refine s_n ?_
   |refine s_r ?_)
  ·exact fa_q (by simp) (fun _ _=>rfl) (by unfold okH;simp_all)
  ·exact j_i () ‹_›
 refine g_cut (fun _:Unit=>[(1,.v (ptr b)),(3,.v (ptr b))]) (fun _=>[hdA b x.hdr,ro m]) (fun _=>R2 x.H) ?_ (fun _ h2=>?_)
 ·repeat' (first
   |(refine k_L ?_;first|refine a_p rfl ?_|(refine k_c ?_;refine a_cq rfl (fun m hm=>l1cells_q (hs m hm)) ?_))
   |refine a_n ?_
   |(refine k_V ?_;first|refine v_rv ?_|refine v_seq ?_|refine v_reg ?_|refine v_skip ?_|(refine v_cnd rfl (fun hb=>?_) (fun hb=>?_)<;>try(exfalso;omega)))
   |refine s_n ?_
   |refine s_r ?_)
  ·exact fa_q (by simp) (fun _ _=>rfl) (by unfold okH;simp_all)
  ·exact j_i () ‹_›
 refine g_cut (fun _:Unit=>[(1,.v (ptr b)),(3,.v (ptr b))]) (fun _=>[hdA b x.hdr,ro m]) (fun _=>R3 x.H) ?_ (fun _ h3=>?_)
 ·repeat' (first
   |(refine k_L ?_;first|refine a_p rfl ?_|(refine k_g ?_;first|refine a_gy rfl rfl ?_|refine a_gn rfl rfl ?_|(refine a_gne rfl (fun hb=>?_) (fun hb=>?_)<;>try(exfalso;omega)))|(refine k_l ?_;refine g_l rfl ?_)|(refine k_q ?_;refine a_q rfl (fun m hm=>l1units_q (hs m hm) h1 h2) ?_))
   |refine a_n ?_
   |(refine k_V ?_;first|refine v_rv ?_|refine v_seq ?_|refine v_dreg ?_|refine v_skip ?_|refine v_ct rfl ?_|(refine v_cd rfl (fun hb=>?_) (fun hb=>?_)<;>try(exfalso;omega)))
   |refine s_n ?_
   |refine s_r ?_)
  ·exact fa_q (by simp) (fun _ _=>rfl) (by
    have:¬R3 x.H:=fun h=>absurd h.1.symm ‹_›
    unfold okH;simp_all)
  ·exact fa_q (by simp) (fun _ _=>rfl) (by
    have:¬R3 x.H:=fun h=>by have:=h.2;have e:x.H.used=x.hdr.used:=rfl;have e2:x.H.room=x.hdr.room:=rfl;omega
    unfold okH;simp_all)
  ·exact j_i () ⟨Eq.symm ‹_›,by show x.hdr.used≤x.hdr.room;omega⟩
 refine g_cut (fun _:Unit=>[(1,.v (ptr b)),(3,.v (ptr b))]) (fun _=>[hdA b x.hdr,ro m]) (fun _=>R4 x.H) ?_ (fun _ h4=>?_)
 ·repeat' (first
   |(refine k_L ?_;first|refine a_p rfl ?_|(refine k_c ?_;refine a_cq rfl (fun m hm=>l1words_q (hs m hm)) ?_))
   |refine a_n ?_
   |(refine k_V ?_;first|refine v_rv ?_|refine v_seq ?_|refine v_reg ?_|refine v_skip ?_|(refine v_cnd rfl (fun hb=>?_) (fun hb=>?_)<;>try(exfalso;omega)))
   |refine s_n ?_
   |refine s_r ?_)
  ·exact fa_q (by simp) (fun _ _=>rfl) (by unfold okH;simp_all)
  ·exact j_i () ‹_›
 refine g_cut (fun _:Unit=>[(1,.v (ptr b)),(3,.v (ptr b))]) (fun _=>[hdA b x.hdr,ro m]) (fun _=>R5 x.H) ?_ (fun _ h5=>?_)
 ·repeat' (first
   |(refine k_L ?_;first|refine a_p rfl ?_|(refine k_c ?_;refine a_cq rfl (fun m hm=>l1colors_q (hs m hm) h2) ?_))
   |refine a_n ?_
   |(refine k_V ?_;first|refine v_rv ?_|refine v_seq ?_|refine v_reg ?_|refine v_skip ?_|(refine v_cnd rfl (fun hb=>?_) (fun hb=>?_)<;>try(exfalso;omega)))
   |refine s_n ?_
   |refine s_r ?_)
  ·exact fa_q (by simp) (fun _ _=>rfl) (by unfold okH;simp_all)
  ·exact j_i () ‹_›
 refine g_cut (fun _:Unit=>[(1,.v (ptr b)),(3,.v (ptr b))]) (fun _=>[hdA b x.hdr,ro m]) (fun _=>R6 x.H) ?_ (fun _ h6=>?_)
 ·repeat' (first
   |(refine k_L ?_;first|refine a_p rfl ?_|(refine k_c ?_;refine a_cq rfl (fun m hm=>l1hands_q (hs m hm) h1 h5) ?_))
   |refine a_n ?_
   |(refine k_V ?_;first|refine v_rv ?_|refine v_seq ?_|refine v_reg ?_|refine v_skip ?_|(refine v_cnd rfl (fun hb=>?_) (fun hb=>?_)<;>try(exfalso;omega)))
   |refine s_n ?_
   |refine s_r ?_)
  ·exact fa_q (by simp) (fun _ _=>rfl) (by unfold okH;simp_all)
  ·exact j_i () ‹_›
 refine g_cut (fun _:Unit=>[(1,.v (ptr b)),(3,.v (ptr b))]) (fun _=>[hdA b x.hdr,ro m]) (fun _=>R7 x.H) ?_ (fun _ h7=>?_)
 ·repeat' (first
   |(refine k_L ?_;first|refine a_p rfl ?_|(refine k_c ?_;refine a_cq rfl (fun m hm=>l1marks_q (hs m hm) h1 h2 h4 h6) ?_))
   |refine a_n ?_
   |(refine k_V ?_;first|refine v_rv ?_|refine v_seq ?_|refine v_reg ?_|refine v_skip ?_|(refine v_cnd rfl (fun hb=>?_) (fun hb=>?_)<;>try(exfalso;omega)))
   |refine s_n ?_
   |refine s_r ?_)
  ·exact fa_q (by simp) (fun _ _=>rfl) (by unfold okH;simp_all)
  ·exact j_i () ‹_›
 refine g_cut (fun _:Unit=>[(1,.v (ptr b)),(3,.v (ptr b))]) (fun _=>[hdA b x.hdr,ro m]) (fun _=>R8 x.H) ?_ (fun _ h8=>?_)
 ·repeat' (first
   |(refine k_L ?_;first|refine a_p rfl ?_|(refine k_c ?_;refine a_cq rfl (fun m hm=>l1closing_q (hs m hm)) ?_))
   |refine a_n ?_
   |(refine k_V ?_;first|refine v_rv ?_|refine v_seq ?_|refine v_reg ?_|refine v_skip ?_|(refine v_cnd rfl (fun hb=>?_) (fun hb=>?_)<;>try(exfalso;omega)))
   |refine s_n ?_
   |refine s_r ?_)
  ·exact fa_q (by simp) (fun _ _=>rfl) (by unfold okH;simp_all)
  ·exact j_i () ‹_›
 repeat' (first
  |refine a_n ?_
  |(refine k_V ?_;refine v_rv ?_))
 exact fa_q (by simp) (fun _ _=>rfl) (by rw[(okH_sound x.H).2 ⟨h1,h2,h3,h4,h5,h6,h7,h8⟩])
end Go.Proofs.YtcjmodomfilagaaGreat.E
