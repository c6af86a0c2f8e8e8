/- A part of the proof. Conditions: none. -/
import Derived.Test.YtpleoapljeffiaaGreatDoorKE9
set_option linter.unusedVariables false
set_option linter.unusedSimpArgs false
set_option maxHeartbeats 8000000
set_option maxRecDepth 100000
namespace Go.Proofs.YtpleoapljeffiaaGreatDoor.E
open Go
open Classical
theorem l1words_q{m:Mem}{a:Nat}{x:HX}(h:Has m (hp a x)):Qt Tryz.prog 74 [ptr a] m (.bool (decide (R4 x.H))):=by
 have hb:=h.lens
 have hl:=x.len
 have hnc:(x.hdr.nc:Int)=x.H.cells.length:=by rw[hl];rfl
 refine qt_of (fnA_of (fun h=>fn74 (by simp) h) ?_)
 repeat' (first|refine xx ?_|fail)
 refine g_range x.regs.length (fun _:Unit=>[(0,.v (ptr a)),(14,.v (.slice x.rd.a x.regs.length x.rd.cap))]) (fun _=>[ro m]) (fun i _=>∀(j:Nat) w,j<i→x.regs[j]?=some w→Formed x.H w∧LeadsWell x.H w False) () (fun j c hj=>by omega) (fun i _ hi hv=>?_) (fun _ hr=>?_)
 ·obtain⟨w,gw⟩:∃w,x.regs[i]?=some w:=⟨_,List.getElem?_eq_getElem hi⟩
  have lw:=leadsWell_b (H:=x.H) (w:=w) (b:=false) (p:=False) (by simp)
  repeat' (first|refine xx ?_|(refine xy ?_ ?_<;>intro hb<;>try(exfalso;omega))|(refine k_L ?_;(refine k_c ?_;refine a_cq rfl (fun m hm=>l1leads_q (w:=w) (has_g h hm)) ?_))|fail)
  ·refine q_F fun h4=>?_
   have:=h4.regs w (List.mem_of_getElem? gw)
   have hn:¬(Formed x.H w∧LeadsWell x.H w (false=true)):=‹_›
   exact hn ⟨this.1,lw.2 this.2⟩
  ·refine r_nx () (fun j v hj hq=>?_)
   by_cases e:j=i
   ·subst e;rw[gw]at hq;cases hq
    have hfl:Formed x.H w∧LeadsWell x.H w (false=true):=‹_›
    exact⟨hfl.1,lw.1 hfl.2⟩
   ·exact hv j v (by omega) hq
 repeat' (first|refine xx ?_|fail)
 refine g_range x.xs.length (fun _:Unit=>[(0,.v (ptr a)),(28,.v (.slice x.cd.a x.xs.length x.cd.cap))]) (fun _=>[ro m]) (fun i _=>∀(j:Nat) c,j<i→x.H.cells[j]?=some c→OK4 x.H j c) () (fun j c hj=>by omega) (fun i _ hi hv=>?_) (fun _ hv=>?_)
 ·obtain⟨y,gy,gc⟩:=HX.at hi
  have hbp:y.c.pairs.length≤140737488355328:=by obtain⟨b,l,s⟩:=h;exact(kn_t (kn_t (kn_h (kb_cp gy))):Kn (hp a x) _).out b s
  have hgc:x.H.getC (i:Int)=y.c:=by unfold Heap.getC;rw[List.getD_eq_getElem?_getD];show(x.H.cells[i]?).getD _=_;rw[gc];rfl
  refine v_seq ?_
  repeat' (first
   |(refine k_L ?_;first|refine a_p rfl ?_|(refine k_i ?_;refine g_i rfl rfl ?_)|(refine k_ls ?_;refine g_ls rfl ?_)|(refine k_st ?_;refine g_sw rfl rfl rfl rfl (Nat.le_of_ble_eq_true rfl) ?_)|(refine k_al ?_;refine a_al ?_))
   |refine a_n ?_
   |(refine k_V ?_;refine v_reg ?_)
   |refine s_n ?_
   |refine sk_zero ?_
   |refine sk_succ ?_
   |refine wk_nil ?_
   |refine wk_cons ?_)
  refine v_seq ?_
  repeat' (first
   |(refine k_L ?_;first|refine a_p rfl ?_|(refine k_c ?_;refine a_cq rfl (fun m hm=>l1doomed_q (i:=i) (has_g h hm) (by omega) (by omega)) ?_))
   |refine a_n ?_
   |(refine k_V ?_;refine v_reg ?_)
   |refine s_n ?_)
  refine g_cut (fun _:Unit=>[(0,.v (ptr a)),(5,.v (.int .i64 i)),(6,.box (csw y)),(7,.v (.bool (decide (Doomed x.H i)))),(28,.v (.slice x.cd.a x.xs.length x.cd.cap)),(29,.v (.int .i64 x.xs.length)),(30,.v (.int .i64 i))]) (fun _=>[ro m]) (fun _=>Doomed x.H i→¬Root y.c) ?_ (fun _ hdr=>?_)
  ·repeat' (first|refine xx ?_|(refine xy ?_ ?_<;>intro hb<;>try(exfalso;omega))|fail)
   all_goals first
    |exact q_F fun h4=>h4.roots i _ gc ‹_› ⟨hgc▸‹Doomed x.H i›.2.1,.inl ‹_›⟩
    |exact q_F fun h4=>h4.roots i _ gc ‹_› ⟨hgc▸‹Doomed x.H i›.2.1,.inr ‹_›⟩
    |exact j_i () (fun r1 r2=>absurd r1 ‹_›)
    |exact j_i () (fun r1 r2=>r2.2.elim ‹_› ‹_›)
  by_cases hD:Doomed x.H i
  ·repeat' (first
    |(refine k_L ?_;refine a_p rfl ?_)
    |refine a_n ?_
    |(refine k_V ?_;first|refine v_seq ?_|refine v_reg ?_)
    |refine s_n ?_)
   refine g_range y.c.pairs.length (fun _:Unit=>[(0,.v (ptr a)),(5,.v (.int .i64 i)),(7,.v (.bool (decide (Doomed x.H i)))),(28,.v (.slice x.cd.a x.xs.length x.cd.cap)),(29,.v (.int .i64 x.xs.length)),(30,.v (.int .i64 i)),(50,.v (.slice y.d.a y.c.pairs.length y.d.cap))]) (fun _=>[ro m]) (fun k _=>∀(j:Nat) p,j<k→y.c.pairs[j]?=some p→Formed x.H p.key∧Formed x.H p.val) () (fun j c hj=>by omega) (fun k _ hk hv=>?_) (fun _ hw=>?_)
   ·obtain⟨p,gp⟩:∃p,y.c.pairs[k]?=some p:=⟨_,List.getElem?_eq_getElem (by omega)⟩
    rw[decide_eq_true hD]
    repeat' (first|refine xx ?_|(refine xy ?_ ?_<;>intro hb<;>try(exfalso;omega))|(refine k_L ?_;(refine k_q ?_;first|refine a_q rfl (fun m hm=>l1formed_q (H:=x.H) (w:=p.key) hnc) ?_|refine a_q rfl (fun m hm=>l1formed_q (H:=x.H) (w:=p.val) hnc) ?_))|fail)
    ·exact q_F fun h4=>‹¬Formed x.H p.key› (h4.pairs i _ gc k p gp).1
    ·exact q_F fun h4=>‹¬Formed x.H p.val› (h4.pairs i _ gc k p gp).2.1
    ·refine r_ct () (fun j q hj hq=>?_)
     by_cases e:j=k
     ·subst e;rw[gp]at hq;cases hq;exact⟨‹_›,‹_›⟩
     ·exact hv j q (by omega) hq
   ·repeat' (first|refine xx ?_|(refine xy ?_ ?_<;>intro hb<;>try(exfalso;omega))|fail)
    refine r_nx () (fun j c hj hc=>?_)
    by_cases e:j=i
    ·subst e;rw[gc]at hc;cases hc
     exact⟨hdr,fun k p gp=>⟨(hw k p (List.getElem?_eq_some_iff.1 gp).1 gp).1,(hw k p (List.getElem?_eq_some_iff.1 gp).1 gp).2,fun hn=>absurd hD hn⟩⟩
    ·exact hv j c (by omega) hc
  ·repeat' (first
    |(refine k_L ?_;refine a_p rfl ?_)
    |refine a_n ?_
    |(refine k_V ?_;first|refine v_seq ?_|refine v_reg ?_)
    |refine s_n ?_)
   refine g_range y.c.pairs.length (fun _:Unit=>[(0,.v (ptr a)),(5,.v (.int .i64 i)),(7,.v (.bool (decide (Doomed x.H i)))),(28,.v (.slice x.cd.a x.xs.length x.cd.cap)),(29,.v (.int .i64 x.xs.length)),(30,.v (.int .i64 i)),(50,.v (.slice y.d.a y.c.pairs.length y.d.cap))]) (fun _=>[ro m]) (fun k _=>∀(j:Nat) p,j<k→y.c.pairs[j]?=some p→(Formed x.H p.key∧LeadsWell x.H p.key (¬Mended x.H i j))∧(Formed x.H p.val∧LeadsWell x.H p.val (¬Mended x.H i j))) () (fun j c hj=>by omega) (fun k _ hk hv=>?_) (fun _ hw=>?_)
   ·obtain⟨p,gp⟩:∃p,y.c.pairs[k]?=some p:=⟨_,List.getElem?_eq_getElem (by omega)⟩
    rw[decide_eq_false hD]
    have lw:=fun w=>leadsWell_b (H:=x.H) (w:=w) (b:= !decide (Mended x.H i k)) (p:=¬Mended x.H i k) (by simp)
    repeat' (first|refine xx ?_|(refine xy ?_ ?_<;>intro hb<;>try(exfalso;omega))|(refine k_L ?_;(refine k_c ?_;first|refine a_cq rfl (fun m hm=>l1mended_q (i:=i) (k:=k) (has_g h hm)) ?_|refine a_cq rfl (fun m hm=>l1leads_q (w:=p.key) (has_g h hm)) ?_|refine a_cq rfl (fun m hm=>l1leads_q (w:=p.val) (has_g h hm)) ?_))|fail)
    ·refine q_F fun h4=>?_
     have h5:=h4.pairs i _ gc k p gp
     have hn:¬(Formed x.H p.key∧LeadsWell x.H p.key ((!decide (Mended x.H i k))=true)):=‹_›
     exact hn ⟨h5.1,(lw p.key).2 (h5.2.2 hD).1⟩
    ·refine q_F fun h4=>?_
     have h5:=h4.pairs i _ gc k p gp
     have hn:¬(Formed x.H p.val∧LeadsWell x.H p.val ((!decide (Mended x.H i k))=true)):=‹_›
     exact hn ⟨h5.2.1,(lw p.val).2 (h5.2.2 hD).2⟩
    ·refine r_nx () (fun j q hj hq=>?_)
     by_cases e:j=k
     ·subst e;rw[gp]at hq;cases hq
      have c1:Formed x.H p.key∧LeadsWell x.H p.key ((!decide (Mended x.H i j))=true):=‹_›
      have c2:Formed x.H p.val∧LeadsWell x.H p.val ((!decide (Mended x.H i j))=true):=‹_›
      exact⟨⟨c1.1,(lw p.key).1 c1.2⟩,⟨c2.1,(lw p.val).1 c2.2⟩⟩
     ·exact hv j q (by omega) hq
   ·repeat' (first|refine xx ?_|(refine xy ?_ ?_<;>intro hb<;>try(exfalso;omega))|fail)
    refine r_nx () (fun j c hj hc=>?_)
    by_cases e:j=i
    ·subst e;rw[gc]at hc;cases hc
     exact⟨hdr,fun k p gp=>let w:=hw k p (List.getElem?_eq_some_iff.1 gp).1 gp;⟨w.1.1,w.2.1,fun _=>⟨w.1.2,w.2.2⟩⟩⟩
    ·exact hv j c (by omega) hc
 ·repeat' (first|refine xx ?_|fail)
  refine q_T ⟨fun w hw=>?_,fun i c hc=>(hv i c (by have:=(List.getElem?_eq_some_iff.1 hc).1;omega) hc).1,fun i c hc=>(hv i c (by have:=(List.getElem?_eq_some_iff.1 hc).1;omega) hc).2⟩
  obtain⟨i,hi⟩:=List.getElem?_of_mem hw
  exact hr i w (List.getElem?_eq_some_iff.1 hi).1 hi
def cnt(i:Int):List Int→Nat
 |[]=>0
 |g::r=>(if g=i then 1 else 0)+cnt i r
theorem cnt_app(i:Int):∀(l:List Int) (g:Int),cnt i (l++[g])=cnt i l+(if g=i then 1 else 0)
 |[],g=>by simp[cnt]
 |x::r,g=>by simp only[List.cons_append,cnt,cnt_app i r g];omega
theorem cnt_zero{i:Int}:∀{l:List Int},cnt i l=0↔i∉l
 |[]=>by simp[cnt]
 |x::r=>by
  simp only[cnt,List.mem_cons,not_or]
  by_cases h:x=i
  ·simp[h]
  ·have:=cnt_zero (i:=i) (l:=r)
   simp only[h,if_false,Nat.zero_add,this]
   exact⟨fun hh=>⟨fun e=>h e.symm,hh⟩,fun hh=>hh.2⟩
theorem cnt_nodup:∀{l:List Int},l.Nodup↔∀i,cnt i l≤1
 |[]=>by simp[cnt]
 |x::r=>by
  rw[List.nodup_cons,cnt_nodup (l:=r)]
  simp only[cnt]
  constructor
  ·rintro⟨h1,h2⟩ i
   by_cases h:x=i
   ·subst h
    have:=cnt_zero.2 h1
    simp[this]
   ·simp only[h,if_false];have:=h2 i;omega
  ·intro h
   refine⟨cnt_zero.1 ?_,fun i=>?_⟩
   ·have:=h x;simp only[if_true]at this;omega
   ·have:=h i;omega
def OK5(H:Heap)(j:Nat)(c:Cell):Prop:=(c.color=1→cnt j H.gray=1)∧(c.color≠1→cnt j H.gray=0)∧(c.color=2→¬Marking H→H.phase=3∧H.hand≤j)
theorem col_iff{H:Heap}(h2:R2 H):R5 H↔((¬Marking H→H.gray=[])∧(∀(j:Nat) c,H.cells[j]?=some c→OK5 H j c)∧∀g,g∈H.gray→0≤g∧g<H.cells.length):=by
 constructor
 ·intro h
  refine⟨fun hm=>(h.else_ hm).1,fun j c hc=>?_,fun g hg=>?_⟩
  ·have hgc:H.getC (j:Int)=c:=by unfold Heap.getC;rw[List.getD_eq_getElem?_getD];show(H.cells[j]?).getD _=_;rw[hc];rfl
   by_cases hm:Marking H
   ·obtain⟨m1,m2,m3⟩:=h.mark hm
    refine⟨fun hk=>?_,fun hk=>?_,fun _ hn=>absurd hm hn⟩
    ·have a1:=cnt_nodup.1 m1 j
     have a2:cnt j H.gray≠0:=fun e=>cnt_zero.1 e (m3 j c hc hk)
     omega
    ·refine cnt_zero.2 fun hg=>hk ?_
     have:=(m2 _ hg).2.2.2
     rw[hgc]at this;exact this
   ·obtain⟨m1,m2⟩:=h.else_ hm
    rw[OK5,m1]
    exact⟨fun hk=>absurd hk (m2 j c hc).1,fun _=>rfl,fun hk _=>(m2 j c hc).2 hk⟩
  ·by_cases hm:Marking H
   ·exact⟨((h.mark hm).2.1 g hg).1,((h.mark hm).2.1 g hg).2.1⟩
   ·rw[(h.else_ hm).1]at hg;cases hg
 ·rintro⟨g1,g2,g3⟩
  refine⟨fun hm=>⟨cnt_nodup.2 fun i=>?_,fun g hg=>?_,fun i c hc hk=>?_⟩,fun hm=>⟨g1 hm,fun i c hc=>?_⟩⟩
  ·by_cases hi:i∈H.gray
   ·obtain⟨i0,i1⟩:=g3 i hi
    obtain⟨c,hc⟩:∃c,H.cells[i.toNat]?=some c:=⟨_,List.getElem?_eq_getElem (by omega)⟩
    have h5:=g2 _ c hc
    unfold OK5 at h5
    rw[show((i.toNat:Nat):Int)=i by omega]at h5
    by_cases hk:c.color=1
    ·rw[h5.1 hk];exact Nat.le_refl _
    ·rw[h5.2.1 hk];omega
   ·rw[cnt_zero.2 hi];omega
  ·obtain⟨i0,i1⟩:=g3 g hg
   obtain⟨c,hc⟩:∃c,H.cells[g.toNat]?=some c:=⟨_,List.getElem?_eq_getElem (by omega)⟩
   have hgc:H.getC g=c:=by unfold Heap.getC;rw[List.getD_eq_getElem?_getD,hc];rfl
   have h5:=g2 _ c hc
   have hk:c.color=1:=by
    by_cases hk:c.color=1
    ·exact hk
    ·have:=h5.2.1 hk
     rw[show((g.toNat:Nat):Int)=g by omega]at this
     exact absurd hg (cnt_zero.1 this)
   refine⟨i0,i1,?_,by rw[hgc];exact hk⟩
   rw[hgc]
   rcases h2.each _ c hc with h|h|h
   ·have:=h.2.1.2.2.2.2.1;omega
   ·have:=h.2.1.2.2.2.2.1;omega
   ·exact h.1
  ·have:=(g2 i c hc).1 hk
   by_cases hi:(i:Int)∈H.gray
   ·exact hi
   ·rw[cnt_zero.2 hi]at this;omega
  ·have h5:=g2 i c hc
   refine⟨fun hk=>?_,fun hk=>h5.2.2 hk hm⟩
   have:=h5.1 hk
   rw[g1 hm]at this;simp[cnt]at this
theorem l1colors_q{m:Mem}{a:Nat}{x:HX}(h:Has m (hp a x))(h2:R2 x.H):Qt Tryz.prog 75 [ptr a] m (.bool (decide (R5 x.H))):=by
 have hb:=h.lens
 have hl:=x.len
 have hnc:(x.hdr.nc:Int)=x.xs.length:=rfl
 have hng:x.hdr.ng=x.gray.length:=rfl
 refine qt_of (fnA_of (fun h=>fn75 (by simp) h) ?_)
 refine v_seq ?_
 repeat' (first
  |(refine k_L ?_;refine a_p rfl ?_)
  |refine a_n ?_
  |(refine k_V ?_;refine v_reg ?_)
  |refine s_n ?_)
 refine g_cut (fun _:Unit=>[(0,.v (ptr a)),(3,.v (.bool (decide (Marking x.H))))]) (fun _=>[ro m]) (fun _=>True) ?_ (fun _ _=>?_)
 ·repeat' (first|refine xx ?_|(refine xy ?_ ?_<;>intro hb<;>try(exfalso;omega))|fail)
  all_goals refine j_i () trivial (hl:=⟨rfl,?_,trivial⟩)
  all_goals (show SV.v (.bool _)=_;congr 1;refine bool_dec ?_;simp_all [Marking,HX.hdr,HX.H])
 refine g_cut (fun _:Unit=>[(0,.v (ptr a)),(3,.v (.bool (decide (Marking x.H))))]) (fun _=>[ro m]) (fun _=>¬Marking x.H→x.H.gray=[]) ?_ (fun _ hg0=>?_)
 ·repeat' (first|refine xx ?_|(refine xy ?_ ?_<;>intro hb<;>try(exfalso;omega))|fail)
  ·exact q_F fun h5=>by have:=(h5.else_ ‹_›).1;have e:x.hdr.ng=x.H.gray.length:=rfl;rw[this]at e;simp at e;omega
  all_goals refine j_i () (fun hm=>?_)
  ·exact List.eq_nil_of_length_eq_zero (by show x.gray.length=0;omega)
  ·exact absurd ‹Marking x.H› hm
 repeat' (first|refine xx ?_|fail)
 refine g_range x.xs.length (fun _:Unit=>[(0,.v (ptr a)),(3,.v (.bool (decide (Marking x.H)))),(36,.v (.slice x.cd.a x.xs.length x.cd.cap))]) (fun _=>[ro m]) (fun i _=>∀(j:Nat) c,j<i→x.H.cells[j]?=some c→OK5 x.H j c) () (fun j c hj=>by omega) (fun i _ hi hv=>?_) (fun _ hv=>?_)
 ·obtain⟨y,gy,gc⟩:=HX.at hi
  have nx:OK5 x.H i y.c→∀(j:Nat) c,j<i+1→x.H.cells[j]?=some c→OK5 x.H j c:=by
   intro hp j c hj hc
   by_cases e:j=i
   ·subst e;rw[gc]at hc;cases hc;exact hp
   ·exact hv j c (by omega) hc
  repeat' (first
   |(refine k_L ?_;first|refine a_p rfl ?_|(refine k_l ?_;refine g_l rfl ?_)|(refine k_i ?_;refine g_i rfl rfl ?_)|(refine k_ls ?_;refine g_ls rfl ?_)|(refine k_st ?_;refine g_sw rfl rfl rfl rfl (Nat.le_of_ble_eq_true rfl) ?_)|(refine k_al ?_;refine a_al ?_))
   |refine a_n ?_
   |(refine k_V ?_;first|refine v_seq ?_|refine v_reg ?_)
   |refine s_n ?_
   |refine sk_zero ?_
   |refine sk_succ ?_
   |refine wk_nil ?_
   |refine wk_cons ?_)
  refine g_range x.gray.length (fun n:Nat=>[(0,.v (ptr a)),(3,.v (.bool (decide (Marking x.H)))),(4,.v (.int .i64 i)),(5,.box (csw y)),(6,.v (.int .i64 n)),(36,.v (.slice x.cd.a x.xs.length x.cd.cap)),(37,.v (.int .i64 x.xs.length)),(38,.v (.int .i64 i)),(46,.v (.slice x.gd.a x.gray.length x.gd.cap))]) (fun _=>[ro m]) (fun k n=>n≤k∧n=cnt i (x.gray.take k)) 0 ⟨by omega,rfl⟩ (fun k n hk hw=>?_) (fun n hw=>?_)
  ·obtain⟨hnk,hw⟩:=hw
   obtain⟨g,gg⟩:∃g,x.gray[k]?=some g:=⟨_,List.getElem?_eq_getElem hk⟩
   have htk:x.gray.take (k+1)=x.gray.take k++[g]:=by rw[List.take_add_one,gg];rfl
   repeat' (first|refine xx ?_|(refine xy ?_ ?_<;>intro hb<;>try(exfalso;omega))|fail)
   ·exact r_nx (n+1) ⟨by omega,by rw[htk,cnt_app,if_pos ‹_›,←hw]⟩
   ·exact r_nx n ⟨by omega,by rw[htk,cnt_app,if_neg ‹_›,←hw];rfl⟩
  ·obtain⟨_,hw⟩:=hw
   rw[List.take_length]at hw
   have hw':n=cnt (i:Int) x.H.gray:=hw
   have bad:¬OK5 x.H i y.c→¬R5 x.H:=fun hn h5=>hn (((col_iff h2).1 h5).2.1 i _ gc)
   repeat' (first|refine xx ?_|(refine xy ?_ ?_<;>intro hb<;>try(exfalso;omega))|fail)
   ·exact q_F (bad fun h5=>by have:=h5.1 ‹_›;omega)
   ·exact r_nx () (nx ⟨fun _=>by omega,fun hk=>absurd ‹y.c.color=1› hk,fun hk=>absurd hk ‹_›⟩)
   ·exact q_F (bad fun h5=>by have:=h5.2.1 ‹_›;omega)
   ·exact q_F (bad fun h5=>absurd (h5.2.2 ‹_› ‹_›).1 ‹_›)
   ·exact q_F (bad fun h5=>absurd (h5.2.2 ‹_› ‹_›).2 (by show ¬x.hdr.hand≤_;omega))
   ·exact r_nx () (nx ⟨fun hk=>absurd hk ‹_›,fun hk=>by omega,fun _ _=>⟨‹_›,by show x.hdr.hand≤_;omega⟩⟩)
   ·exact r_nx () (nx ⟨fun hk=>absurd hk ‹_›,fun hk=>by omega,fun _ hn=>absurd ‹Marking x.H› hn⟩)
   ·exact r_nx () (nx ⟨fun hk=>absurd hk ‹_›,fun hk=>by omega,fun hk=>absurd hk ‹_›⟩)
 ·repeat' (first|refine xx ?_|fail)
  refine g_range x.gray.length (fun _:Unit=>[(0,.v (ptr a)),(100,.v (.slice x.gd.a x.gray.length x.gd.cap))]) (fun _=>[ro m]) (fun k _=>∀(j:Nat) g,j<k→x.gray[j]?=some g→0≤g∧g<x.H.cells.length) () (fun j c hj=>by omega) (fun k _ hk hw=>?_) (fun _ hw=>?_)
  ·obtain⟨g,gg⟩:∃g,x.gray[k]?=some g:=⟨_,List.getElem?_eq_getElem hk⟩
   have hgm:=List.mem_of_getElem? gg
   repeat' (first|refine xx ?_|(refine xy ?_ ?_<;>intro hb<;>try(exfalso;omega))|fail)
   ·exact q_F fun h5=>by have:=(((col_iff h2).1 h5).2.2 g hgm).1;omega
   ·exact q_F fun h5=>by have:=(((col_iff h2).1 h5).2.2 g hgm).2;omega
   ·refine r_nx () (fun j u hj hu=>?_)
    by_cases e:j=k
    ·subst e;rw[gg]at hu;cases hu;omega
    ·exact hw j u (by omega) hu
  ·repeat' (first|refine xx ?_|fail)
   refine q_T ((col_iff h2).2 ⟨hg0,fun j c hc=>hv j c (by have:=(List.getElem?_eq_some_iff.1 hc).1;omega) hc,fun g hg=>?_⟩)
   obtain⟨k,hk⟩:=List.getElem?_of_mem hg
   exact hw k g (List.getElem?_eq_some_iff.1 hk).1 hk
theorem l1sizes_q{m:Mem}{a:Nat}{x:HX}(h:Has m (hp a x)):Qt Tryz.prog 71 [ptr a] m (.bool (decide (R1 x.H))):=by
 have hb:=h.lens
 refine qt_of (fnA_of (fun h=>fn71 (by simp) h) ?_)
 repeat' (first|refine xx ?_|(refine xy ?_ ?_<;>intro hb<;>try(exfalso;omega))|(refine k_L ?_;first|(refine k_q ?_;refine a_q rfl (fun m hm=>spec.l1inQ) ?_)|(refine k_c ?_;refine a_cq rfl (fun m hm=>spec.l1inQ) ?_))|fail)
 all_goals refine q_B (fun _ _=>rfl) ?_
 all_goals (rw[R1_iff];(try simp only[decide_eq_true_eq]);simp only[HX.hdr,Hdr.s_room,Hdr.s_used,Hdr.s_born,Hdr.s_phase,Hdr.s_hand,Hdr.s_sub,Hdr.s_per,Hdr.s_start,Hdr.s_rounds,Hdr.s_forced,Hdr.s_rd,Hdr.s_cd,Hdr.s_gd,HX.H,List.length_map]at*)
 all_goals simp_all
 all_goals omega
theorem l1units_q{m:Mem}{a:Nat}{x:HX}(h:Has m (hp a x))(h1:R1 x.H)(h2:R2 x.H):Qt Tryz.prog 73 [ptr a] m (.int .i64 (unitsN x.H.cells)):=by
 have hc:=h1.cells
 have hr:=h1.room
 have hl:=x.len
 have hu:=unitsN_le (cs:=x.H.cells) (fun c=>h2.pl)
 refine qt_of (fnA_of (fun h=>fn73 (by simp) h) ?_)
 repeat' (first|refine xx ?_|fail)
 refine g_range x.xs.length (fun n:Int=>[(3,.v (.int .i64 n)),(9,.v (.slice x.cd.a x.xs.length x.cd.cap))]) (fun _=>[ro m]) (fun i n=>n=unitsN (x.H.cells.take i)) 0 rfl (fun i n hi hn=>?_) (fun n hn=>?_)
 ·obtain⟨y,gy,gc⟩:=HX.at hi
  have hu1:=hu i
  have hu2:=hu (i+1)
  have hu3:=unitsN_nn (x.H.cells.take i)
  have ht:=unitsN_take gc
  have hp:=h2.pl (List.mem_of_getElem? gc)
  unfold Cell.units at ht
  repeat' (first|refine xx ?_|(refine xy ?_ ?_<;>intro hb<;>try(exfalso;omega))|fail)
  ·exact r_nx (n+(1+y.c.pairs.length)) (by rw[ht,hn,if_pos ‹_›])
  ·exact r_nx n (by rw[ht,hn,if_neg ‹_›];omega)
 ·rw[List.take_of_length_le (by omega)]at hn
  subst hn
  repeat' (first|refine xx ?_|fail)
  exact fa_q (by simp) (fun _ _=>rfl) rfl
theorem l1closing_q{m:Mem}{a:Nat}{x:HX}(h:Has m (hp a x)):Qt Tryz.prog 78 [ptr a] m (.bool (decide (R8 x.H))):=by
 have hb:=h.lens
 have hl:=x.len
 refine qt_of (fnA_of (fun h=>fn78 (by simp) h) ?_)
 repeat' (first|refine xx ?_|fail)
 refine g_range x.xs.length (fun _:Unit=>[(0,.v (ptr a)),(8,.v (.slice x.cd.a x.xs.length x.cd.cap))]) (fun _=>[ro m]) (fun i _=>∀(j:Nat) c,j<i→x.H.cells[j]?=some c→x.H.phase=6→x.H.hand≤j→c.state≠2) () (fun j c hj=>by omega) (fun i _ hi hv=>?_) (fun _ hv=>?_)
 ·obtain⟨y,gy,gc⟩:=HX.at hi
  have nx:(x.H.phase=6→x.H.hand≤i→y.c.state≠2)→∀(j:Nat) c,j<i+1→x.H.cells[j]?=some c→x.H.phase=6→x.H.hand≤j→c.state≠2:=by
   intro hp j c hj hc
   by_cases e:j=i
   ·subst e;rw[gc]at hc;cases hc;exact hp
   ·exact hv j c (by omega) hc
  repeat' (first|refine xx ?_|(refine xy ?_ ?_<;>intro hb<;>try(exfalso;omega))|fail)
  ·exact q_F fun h8=>absurd ‹y.c.state=2› (h8 ‹_› i _ gc (by show x.hdr.hand≤_;omega))
  all_goals refine r_nx () (nx fun p1 p2=>?_)
  all_goals first|exact absurd p1 ‹_›|assumption|(exfalso;have p3:x.hdr.hand≤(i:Int):=p2;omega)
 ·repeat' (first|refine xx ?_|fail)
  exact q_T fun h6 i c hc hh=>hv i c (by have:=(List.getElem?_eq_some_iff.1 hc).1;omega) hc h6 hh
theorem l1hands_q{m:Mem}{a:Nat}{x:HX}(h:Has m (hp a x))(h1:R1 x.H)(h5:R5 x.H):Qt Tryz.prog 76 [ptr a] m (.bool (decide (R6 x.H))):=by
 have hb:=h.lens
 have hh:=h1.hand
 have hl:=x.len
 have hnc:(x.hdr.nc:Int)=x.xs.length:=rfl
 refine qt_of (fnA_of (fun h=>fn76 (by simp) h) ?_)
 by_cases hp2:x.phase=2
 ·have hm:=(h5.mark (.inr hp2)).2.1
  have hp2':x.hdr.phase=2:=hp2
  cases hg:x.gray with
  |nil=>
   have hgl:(x.hdr.ng:Int)=0:=by simp[HX.hdr,hg]
   have hg':x.H.gray=[]:=hg
   repeat' (first|refine xx ?_|(refine xy ?_ ?_<;>intro hb<;>try(exfalso;omega))|fail)
   all_goals refine q_B (fun _ _=>rfl) ?_
   all_goals simp_all [R6,HX.hdr,Hdr.s_room,Hdr.s_used,Hdr.s_born,Hdr.s_phase,Hdr.s_hand,Hdr.s_sub,Hdr.s_per,Hdr.s_start,Hdr.s_rounds,Hdr.s_forced,Hdr.s_rd,Hdr.s_cd,Hdr.s_gd,HX.H]
  |cons g r=>
   have hgl1:(x.hdr.ng:Int)=r.length+1:=by simp[HX.hdr,hg]
   have hg':x.H.gray=g::r:=hg
   obtain⟨g0,g1,_⟩:=hm g (by rw[hg'];simp)
   obtain⟨y,gy,gc⟩:=HX.atI (x:=x) g0 (by omega)
   have g00:x.gray[(0:Int).toNat]?=some g:=by rw[hg];rfl
   repeat' (first|refine xx ?_|(refine xy ?_ ?_<;>intro hb<;>try(exfalso;omega))|fail)
   all_goals refine q_B (fun _ _=>rfl) ?_
   all_goals simp_all [R6,HX.hdr,Hdr.s_room,Hdr.s_used,Hdr.s_born,Hdr.s_phase,Hdr.s_hand,Hdr.s_sub,Hdr.s_per,Hdr.s_start,Hdr.s_rounds,Hdr.s_forced,Hdr.s_rd,Hdr.s_cd,Hdr.s_gd]
   all_goals simp_all [HX.H]
 ·have hp2':¬x.hdr.phase=2:=hp2
  have hh':0≤x.hdr.hand∧x.hdr.hand≤x.hdr.nc:=by rw[hl]at hh;exact hh
  by_cases hh5:x.hand<x.xs.length
  ·obtain⟨y,gy,gc⟩:=HX.atI (x:=x) hh.1 hh5
   have hh5':x.hdr.hand<x.hdr.nc:=hh5
   have gc':x.H.getC x.hand=y.c:=gc
   repeat' (first|refine xx ?_|(refine xy ?_ ?_<;>intro hb<;>try(exfalso;omega))|(refine k_L ?_;(refine k_q ?_;refine a_q rfl (fun m hm=>l1used_q (i:=x.hand) (has_g h hm) hh.1 (by rw[hl];exact hh5)) ?_))|fail)
   all_goals refine q_B (fun _ _=>rfl) ?_
   all_goals (try simp only[decide_eq_true_eq])
   all_goals simp only[HX.hdr,Hdr.s_room,Hdr.s_used,Hdr.s_born,Hdr.s_phase,Hdr.s_hand,Hdr.s_sub,Hdr.s_per,Hdr.s_start,Hdr.s_rounds,Hdr.s_forced,Hdr.s_rd,Hdr.s_cd,Hdr.s_gd]at*
   all_goals unfold R6
   all_goals simp_all
   all_goals simp_all [HX.H]
  ·have hh5':¬(x.hdr.hand<x.hdr.nc):=hh5
   repeat' (first|refine xx ?_|(refine xy ?_ ?_<;>intro hb<;>try(exfalso;omega))|fail)
   all_goals refine q_B (fun _ _=>rfl) ?_
   all_goals (try simp only[decide_eq_true_eq])
   all_goals simp only[HX.hdr,Hdr.s_room,Hdr.s_used,Hdr.s_born,Hdr.s_phase,Hdr.s_hand,Hdr.s_sub,Hdr.s_per,Hdr.s_start,Hdr.s_rounds,Hdr.s_forced,Hdr.s_rd,Hdr.s_cd,Hdr.s_gd]at*
   all_goals unfold R6
   all_goals simp_all
   all_goals simp_all [HX.H]
theorem bool_d{p:Prop}{_:Decidable p}{b:Bool}(h:b=true↔p):Value.bool b=.bool (decide p):=by congr 1;rw[Bool.eq_iff_iff,h];simp
theorem scanned_le{H:Heap}(h1:R1 H)(h6:R6 H){i:Nat}{c:Cell}(hc:H.cells[i]?=some c):0≤scanned H i c∧scanned H i c≤c.pairs.length:=by
 unfold scanned
 split
 ·omega
 ·split
  ·rename_i hg
   unfold R6 at h6
   rw[if_neg (by rw[hg.1];decide),if_pos hg.1]at h6
   cases hgr:H.gray with
   |nil=>rw[hgr]at hg;simp at hg
   |cons g r=>
    rw[hgr]at hg h6
    have hgi:g=(i:Int):=by simpa using hg.2
    have h3:=h6.2
    simp only[hgi]at h3
    have hgc:H.getC (i:Int)=c:=by unfold Heap.getC;rw[List.getD_eq_getElem?_getD];show(H.cells[i]?).getD _=_;rw[hc];rfl
    rw[hgc]at h3
    exact⟨h1.sub.1,h3⟩
  ·omega
theorem l1marks_q{m:Mem}{a:Nat}{x:HX}(h:Has m (hp a x))(h1:R1 x.H)(h2:R2 x.H)(h4:R4 x.H)(h6:R6 x.H):Qt Tryz.prog 77 [ptr a] m (.bool (decide (R7 x.H))):=by
 have hb:=h.lens
 have hl:=x.len
 have hnc:(x.hdr.nc:Int)=x.xs.length:=rfl
 refine qt_of (fnA_of (fun h=>fn77 (by simp) h) ?_)
 refine v_seq ?_
 repeat' (first
  |(refine k_L ?_;refine a_p rfl ?_)
  |refine a_n ?_
  |(refine k_V ?_;refine v_reg ?_)
  |refine s_n ?_)
 refine g_cut (fun _:Unit=>[(0,.v (ptr a))]) (fun _=>[ro m]) (fun _=>Marking x.H) ?_ (fun _ hmk=>?_)
 ·repeat' (first|refine xx ?_|(refine xy ?_ ?_<;>intro hb<;>try(exfalso;omega))|fail)
  ·exact q_T fun hk=>by rcases hk with hk|hk<;>contradiction
  ·exact j_i () (.inr ‹_›)
  ·exact j_i () (.inl ‹_›)
 have g0:(∃g,x.gray[(0:Int).toNat]?=some g∧x.H.gray.head?=some g)∨(x.hdr.ng:Int)=0∧x.H.gray.head?=none:=by
  show(∃g,x.gray[(0:Int).toNat]?=some g∧x.gray.head?=some g)∨(x.gray.length:Int)=0∧x.gray.head?=none
  cases x.gray with
  |nil=>exact .inr ⟨rfl,rfl⟩
  |cons g r=>exact .inl ⟨g,rfl,rfl⟩
 have hng:x.hdr.ng=x.gray.length:=rfl
 repeat' (first|refine xx ?_|fail)
 refine g_range x.xs.length (fun _:Unit=>[(0,.v (ptr a)),(23,.v (.slice x.cd.a x.xs.length x.cd.cap))]) (fun _=>[ro m]) (fun i _=>∀(j:Nat) c,j<i→x.H.cells[j]?=some c→OK7 x.H j c) () (fun j c hj=>by omega) (fun i _ hi hv=>?_) (fun _ hv=>?_)
 ·obtain⟨y,gy,gc⟩:=HX.at hi
  have hbp:y.c.pairs.length≤140737488355328:=by obtain⟨b,l,s⟩:=h;exact(kn_t (kn_t (kn_h (kb_cp gy))):Kn (hp a x) _).out b s
  have hsc:(if y.c.color=2 then(y.c.pairs.length:Int)else if x.hdr.phase=2∧x.H.gray.head?=some (i:Int)then x.hdr.sub else 0)=scanned x.H i y.c:=rfl
  have hroot:(y.c.last=1∨y.c.last=2)→Root y.c:=fun hl=>⟨by
   rcases h2.each i _ gc with h|h|h
   ·have:=h.2.1.2.2.1;omega
   ·have:=h.2.1.2.2.1;omega
   ·exact h.1,hl⟩
  refine v_seq ?_
  repeat' (first
   |(refine k_L ?_;first|refine a_p rfl ?_|(refine k_i ?_;refine g_i rfl rfl ?_)|(refine k_ls ?_;refine g_ls rfl ?_)|(refine k_st ?_;refine g_sw rfl rfl rfl rfl (Nat.le_of_ble_eq_true rfl) ?_)|(refine k_al ?_;refine a_al ?_))
   |refine a_n ?_
   |(refine k_V ?_;refine v_reg ?_)
   |refine s_n ?_
   |refine sk_zero ?_
   |refine sk_succ ?_
   |refine wk_nil ?_
   |refine wk_cons ?_)
  refine g_cut (fun _:Unit=>[(0,.v (ptr a)),(3,.v (.int .i64 i)),(4,.box (csw y)),(5,.v (.bool (decide (y.c.last=1∨y.c.last=2)))),(23,.v (.slice x.cd.a x.xs.length x.cd.cap)),(24,.v (.int .i64 x.xs.length)),(25,.v (.int .i64 i))]) (fun _=>[ro m]) (fun _=>True) ?_ (fun _ _=>?_)
  ·repeat' (first|refine xx ?_|(refine xy ?_ ?_<;>intro hb<;>try(exfalso;omega))|fail)
   all_goals refine j_i () trivial (hl:=⟨rfl,rfl,rfl,?_,rfl,rfl,rfl,trivial⟩)
   all_goals (show SV.v (.bool _)=_;congr 1;refine bool_d ?_;simp_all)
  refine g_cut (fun _:Unit=>[(0,.v (ptr a)),(3,.v (.int .i64 i)),(4,.box (csw y)),(23,.v (.slice x.cd.a x.xs.length x.cd.cap)),(24,.v (.int .i64 x.xs.length)),(25,.v (.int .i64 i))]) (fun _=>[ro m]) (fun _=>Root y.c→y.c.color=0→x.hdr.phase≠2∧x.hdr.hand≤i) ?_ (fun _ hr=>?_)
  ·repeat' (first|refine xx ?_|(refine xy ?_ ?_<;>intro hb<;>try(exfalso;omega))|fail)
   ·exact q_F fun h7=>absurd ‹x.hdr.phase=2› ((h7 ‹_› i _ gc).1 (hroot ‹_›) ‹_›).1
   ·exact q_F fun h7=>absurd ((h7 ‹_› i _ gc).1 (hroot ‹_›) ‹_›).2 (by show ¬x.hdr.hand≤_;omega)
   all_goals refine j_i () (fun r1 r2=>?_)
   ·exact⟨‹_›,by omega⟩
   all_goals first|exact absurd r1.2 ‹_›|exact absurd r2 ‹_›
  refine v_seq ?_
  repeat' (first
   |(refine k_L ?_;refine a_p rfl ?_)
   |refine a_n ?_
   |(refine k_V ?_;refine v_reg ?_)
   |refine s_n ?_)
  refine g_cut (fun n:Int=>[(0,.v (ptr a)),(4,.box (csw y)),(6,.v (.int .i64 n)),(23,.v (.slice x.cd.a x.xs.length x.cd.cap)),(24,.v (.int .i64 x.xs.length)),(25,.v (.int .i64 i))]) (fun _=>[ro m]) (fun n=>n=scanned x.H i y.c) ?_ (fun n hn=>?_)
  ·rw[←hsc]
   rcases g0 with⟨g,g0,g1⟩|⟨g0,g1⟩
   ·have hlg:=(List.getElem?_eq_some_iff.1 g0).1
    have hlg2:(0:Int)<x.hdr.ng:=by rw[hng];have:(0:Int).toNat=0:=rfl;omega
    repeat' (first|refine xx ?_|(refine xy ?_ ?_<;>intro hb<;>try(exfalso;omega))|fail)
    all_goals refine j_i _ ?_
    all_goals simp_all
   ·repeat' (first|refine xx ?_|(refine xy ?_ ?_<;>intro hb<;>try(exfalso;omega))|fail)
    all_goals refine j_i _ ?_
    all_goals simp_all
  have hn0:0≤n∧n≤y.c.pairs.length:=by rw[hn];exact scanned_le h1 h6 gc
  refine v_seq ?_
  repeat' (first
   |(refine k_L ?_;refine a_p rfl ?_)
   |refine a_n ?_
   |(refine k_V ?_;refine v_reg ?_)
   |refine s_n ?_)
  refine v_blk ?_
  refine v_loop (fun k:Nat=>[(0,.v (ptr a)),(4,.box (csw y)),(6,.v (.int .i64 n)),(7,.v (.int .i64 k)),(23,.v (.slice x.cd.a x.xs.length x.cd.cap)),(24,.v (.int .i64 x.xs.length)),(25,.v (.int .i64 i))]) (fun _=>[ro m])
   (fun f k=>f=n.toNat-k∧(k:Int)≤n∧∀(j:Nat) p,j<k→y.c.pairs[j]?=some p→¬White x.H p.key∧¬White x.H p.val) ⟨_,0,⟨rfl,rfl,rfl,rfl,rfl,rfl,rfl,trivial⟩,Ent.refl _,rfl,by omega,fun j c hj=>by omega⟩ ?_
  rintro f k ⟨rfl,hk,hw⟩
  by_cases hkt:(k:Int)<n
  ·obtain⟨p,gp⟩:∃p,y.c.pairs[k]?=some p:=⟨_,List.getElem?_eq_getElem (by omega)⟩
   obtain⟨f1,f2,_⟩:=h4.pairs i _ gc k p gp
   repeat' (first|refine xx ?_|(refine xy ?_ ?_<;>intro hb<;>try(exfalso;omega))|(refine k_L ?_;(refine k_c ?_;first|refine a_cq rfl (fun m hm=>l1white_q (w:=p.key) (has_g h hm) f1) ?_|refine a_cq rfl (fun m hm=>l1white_q (w:=p.val) (has_g h hm) f2) ?_))|fail)
   ·exact q_F fun h7=>((h7 hmk i _ gc).2 k p gp (by rw[←hn];omega)).1 ‹_›
   ·exact q_F fun h7=>((h7 hmk i _ gc).2 k p gp (by rw[←hn];omega)).2 ‹_›
   ·refine⟨_,k+1,?_,⟨rfl,rfl,rfl,rfl,rfl,rfl,rfl,trivial⟩,Ent.refl _,rfl,by omega,fun j q hj hq=>?_⟩
    ·omega
    ·by_cases e:j=k
     ·subst e;rw[gp]at hq;cases hq;exact⟨‹_›,‹_›⟩
     ·exact hw j q (by omega) hq
  ·repeat' (first|refine xx ?_|(refine xy ?_ ?_<;>intro hb<;>try(exfalso;omega))|fail)
   refine r_nx () (fun j c hj hc=>?_)
   by_cases e:j=i
   ·subst e;rw[gc]at hc;cases hc
    exact⟨hr,fun k' p gp hk'=>hw k' p (by rw[←hn]at hk';omega) gp⟩
   ·exact hv j c (by omega) hc
 ·repeat' (first|refine xx ?_|fail)
  exact q_T fun hm i c hc=>hv i c (by have:=(List.getElem?_eq_some_iff.1 hc).1;omega) hc
theorem specHeapOk_q{m:Mem}{x:HX}(h:Has m x.body):Qt Tryz.prog 38 [x.v] m (.int .i64 (okH x.H)):=by
 refine qt_of (fnA_of (fun h=>fn38 (by simp) h) ?_)
 refine v_seq (v_reg (a_nwh x rfl (fun b=>?_)))
 have hs:∀m',star [hdA b x.hdr,ro m] m'→Has m' (hp b x):=fun m' s=>has_new h s pmt (F:=[])
 repeat' (first
  |(refine k_L ?_;refine a_p rfl ?_)
  |refine a_n ?_
  |refine s_n ?_)
 refine v_seq ?_
 repeat' (first
  |(refine k_L ?_;refine a_p rfl ?_)
  |refine a_n ?_
  |(refine k_V ?_;refine v_reg ?_)
  |refine s_n ?_)
 refine g_cut (fun _:Unit=>[(1,.v (ptr b)),(3,.v (ptr b))]) (fun _=>[hdA b x.hdr,ro m]) (fun _=>R1 x.H) ?_ (fun _ h1=>?_)
 ·repeat' (first|refine xx ?_|(refine xy ?_ ?_<;>intro hb<;>try(exfalso;omega))|(refine k_L ?_;(refine k_c ?_;refine a_cq rfl (fun m hm=>l1sizes_q (hs m hm)) ?_))|fail)
  ·exact fa_q (by simp) (fun _ _=>rfl) (by unfold okH;simp_all)
  ·exact j_i () ‹_›
 refine g_cut (fun _:Unit=>[(1,.v (ptr b)),(3,.v (ptr b))]) (fun _=>[hdA b x.hdr,ro m]) (fun _=>R2 x.H) ?_ (fun _ h2=>?_)
 ·repeat' (first|refine xx ?_|(refine xy ?_ ?_<;>intro hb<;>try(exfalso;omega))|(refine k_L ?_;(refine k_c ?_;refine a_cq rfl (fun m hm=>l1cells_q (hs m hm)) ?_))|fail)
  ·exact fa_q (by simp) (fun _ _=>rfl) (by unfold okH;simp_all)
  ·exact j_i () ‹_›
 refine g_cut (fun _:Unit=>[(1,.v (ptr b)),(3,.v (ptr b))]) (fun _=>[hdA b x.hdr,ro m]) (fun _=>R3 x.H) ?_ (fun _ h3=>?_)
 ·repeat' (first|refine xx ?_|(refine xy ?_ ?_<;>intro hb<;>try(exfalso;omega))|(refine k_L ?_;(refine k_q ?_;refine a_q rfl (fun m hm=>l1units_q (hs m hm) h1 h2) ?_))|fail)
  ·exact fa_q (by simp) (fun _ _=>rfl) (by
    have:¬R3 x.H:=fun h=>absurd h.1.symm ‹_›
    unfold okH;simp_all)
  ·exact fa_q (by simp) (fun _ _=>rfl) (by
    have:¬R3 x.H:=fun h=>by have:=h.2;have e:x.H.used=x.hdr.used:=rfl;have e2:x.H.room=x.hdr.room:=rfl;omega
    unfold okH;simp_all)
  ·exact j_i () ⟨Eq.symm ‹_›,by show x.hdr.used≤x.hdr.room;omega⟩
 refine g_cut (fun _:Unit=>[(1,.v (ptr b)),(3,.v (ptr b))]) (fun _=>[hdA b x.hdr,ro m]) (fun _=>R4 x.H) ?_ (fun _ h4=>?_)
 ·repeat' (first|refine xx ?_|(refine xy ?_ ?_<;>intro hb<;>try(exfalso;omega))|(refine k_L ?_;(refine k_c ?_;refine a_cq rfl (fun m hm=>l1words_q (hs m hm)) ?_))|fail)
  ·exact fa_q (by simp) (fun _ _=>rfl) (by unfold okH;simp_all)
  ·exact j_i () ‹_›
 refine g_cut (fun _:Unit=>[(1,.v (ptr b)),(3,.v (ptr b))]) (fun _=>[hdA b x.hdr,ro m]) (fun _=>R5 x.H) ?_ (fun _ h5=>?_)
 ·repeat' (first|refine xx ?_|(refine xy ?_ ?_<;>intro hb<;>try(exfalso;omega))|(refine k_L ?_;(refine k_c ?_;refine a_cq rfl (fun m hm=>l1colors_q (hs m hm) h2) ?_))|fail)
  ·exact fa_q (by simp) (fun _ _=>rfl) (by unfold okH;simp_all)
  ·exact j_i () ‹_›
 refine g_cut (fun _:Unit=>[(1,.v (ptr b)),(3,.v (ptr b))]) (fun _=>[hdA b x.hdr,ro m]) (fun _=>R6 x.H) ?_ (fun _ h6=>?_)
 ·repeat' (first|refine xx ?_|(refine xy ?_ ?_<;>intro hb<;>try(exfalso;omega))|(refine k_L ?_;(refine k_c ?_;refine a_cq rfl (fun m hm=>l1hands_q (hs m hm) h1 h5) ?_))|fail)
  ·exact fa_q (by simp) (fun _ _=>rfl) (by unfold okH;simp_all)
  ·exact j_i () ‹_›
 refine g_cut (fun _:Unit=>[(1,.v (ptr b)),(3,.v (ptr b))]) (fun _=>[hdA b x.hdr,ro m]) (fun _=>R7 x.H) ?_ (fun _ h7=>?_)
 ·repeat' (first|refine xx ?_|(refine xy ?_ ?_<;>intro hb<;>try(exfalso;omega))|(refine k_L ?_;(refine k_c ?_;refine a_cq rfl (fun m hm=>l1marks_q (hs m hm) h1 h2 h4 h6) ?_))|fail)
  ·exact fa_q (by simp) (fun _ _=>rfl) (by unfold okH;simp_all)
  ·exact j_i () ‹_›
 refine g_cut (fun _:Unit=>[(1,.v (ptr b)),(3,.v (ptr b))]) (fun _=>[hdA b x.hdr,ro m]) (fun _=>R8 x.H) ?_ (fun _ h8=>?_)
 ·repeat' (first|refine xx ?_|(refine xy ?_ ?_<;>intro hb<;>try(exfalso;omega))|(refine k_L ?_;(refine k_c ?_;refine a_cq rfl (fun m hm=>l1closing_q (hs m hm)) ?_))|fail)
  ·exact fa_q (by simp) (fun _ _=>rfl) (by unfold okH;simp_all)
  ·exact j_i () ‹_›
 repeat' (first|refine xx ?_|fail)
 exact fa_q (by simp) (fun _ _=>rfl) (by rw[(okH_sound x.H).2 ⟨h1,h2,h3,h4,h5,h6,h7,h8⟩])
end Go.Proofs.YtpleoapljeffiaaGreatDoor.E
namespace Go.Proofs.YtpleoapljeffiaaGreatDoor.E
open Go
noncomputable def e157:Env:=⟨Tryz.prog,[7,9,10,12],87,[(16,13)]⟩
abbrev qE(a0:Nat)(a1:Nat)(a2:Nat):I:=⟨some a0,none,.ext (.tmp a1) a2⟩
abbrev qK(a0:Nat)(a1:Nat)(a2:Nat):I:=⟨some a0,none,.callv (.tmp a1) [.tmp a2]⟩
abbrev qP(a0:Nat)(a1:Nat)(a2:Int):I:=⟨some a0,none,.bin .gtr (.tmp a1) (.const (.int .i64 a2))⟩
abbrev qQ(a0:Nat)(a1:Nat)(a2:Nat)(a3:Int)(a4:Nat)(a5:Nat):I:=⟨some a0,none,.app a1 a2 [.int .i64 a3] (.tmp a4) (.tmp a5)⟩
abbrev qR(a0:Nat)(a1:Nat)(a2:Nat)(a3:Nat)(a4:Nat)(a5:Nat):I:=⟨some a0,none,.call a1 [.tmp a2,.tmp a3,.tmp a4,.tmp a5]⟩
abbrev qV(a0:Nat)(a1:Nat)(a2:Nat)(a3:Int)(a4:Nat)(a5:Nat)(a6:Nat):I:=⟨some a0,none,.bslice true a1 a2 [.int .i64 a3] [(a4,a5,.tmp a6)]⟩
abbrev qe(a0:Nat)(a1:Nat)(a2:Int):I:=⟨some a0,none,.bin .and (.tmp a1) (.const (.int .i64 a2))⟩
abbrev ql(a0:Nat)(a1:Nat)(a2:Nat):I:=⟨some a0,none,.alloc false [.slice none a1 a2]⟩
abbrev qm(a0:Nat)(a1:Nat)(a2:Int):I:=⟨some a0,none,.bin .geq (.tmp a1) (.const (.int .i64 a2))⟩
abbrev qv(a0:Nat)(a1:Nat)(a2:Nat)(a3:Nat)(a4:Nat):I:=⟨some a0,none,.mkslice a1 a2 [.bool false] (.tmp a3) (.tmp a4)⟩
abbrev jC(a0:Nat)(a1:Nat):I:=⟨none,none,.store a0 (.tmp a1) (.const (.bool true))⟩
abbrev jD(a0:Nat)(a1:Nat)(a2:Nat)(a3:Int)(a4:Int)(a5:Int)(a6:Nat)(a7:Nat):I:=⟨some a0,none,.app a1 a2 [.int .i64 a3,.int .i64 a4,.int .i64 a5] (.tmp a6) (.tmp a7)⟩
noncomputable def c157:C:=
 .seq (.reg [qd 1 0,zx 2 0 0]) (.seq (.reg [z5 13 1 1,z6 14 13,z4 15 4 14,z5 16 1 15,zE 17 16,qv 18 1 1 17 17,ql 3 0 0,z7 1 3 18]) (.seq (.reg [ql 4 0 0]) (.seq (.reg [⟨some 19,none,.mkfn 168 [] [.tmp 1,.tmp 3,.tmp 4]⟩,z3 5 19]) (.seq (.seq (.reg [z5 20 1 1,z6 21 20,z4 22 3 21,z5 23 1 22,zE 24 23,zC 25 0]) (.block 0 (.loop (.seq (.reg [zN 26 25 24]) (.seq (.cond (.tmp 26) .skip (.exit 0))
 (.seq (.block 1 (.seq (.reg [z8 27 3 23 25,z9 28 3 27,zk 7 0 0 0,z7 3 7 28]) (.reg [z3 29 5,z9 30 3 7,qK 31 29 30]))) (.reg [zG 32 25 1,z3 25 32]))))))) (.seq (.seq (.reg [z5 33 1 1,z6 34 33,z4 35 4 34,z5 36 1 35,zE 37 36,zC 38 0]) (.block 2 (.loop (.seq (.reg [zN 39 38 37]) (.seq (.cond (.tmp 39) .skip (.exit 2)) (.seq (.block 3 (.seq (.reg [z3 40 38,z8 41 8 36 38,z9 42 8 41,zX 9 0 0 0 0 0
 0 0 0 0,z3 8 40,z7 8 9 42]) (.seq (.reg [z9 43 8 9,zM 44 148 43]) (.cond (.tmp 44) (.reg [z3 45 5,z3 46 8,q7 47 0 0 0 0 1 2 2 1 46,qK 48 45 47]) .skip)))) (.reg [zG 49 38 1,z3 38 49]))))))) (.seq (.block 4 (.loop (.seq (.seq (.reg [z5 50 1 4,zE 51 50,qP 52 51 0]) (.cond (.tmp 52) .skip (.exit 4))) (.block 5 (.seq (.dreg 13 [z5 53 1 1,z6 54 53,z4 55 4 54,z5 56 1 55,z5 57 1 4,z5 58 1 4,zE 59
 58,zi 60 59 1,z8 61 1 57 60,z5 62 1 61,z8 63 8 56 62,z9 64 8 63,zX 10 0 0 0 0 0 0 0 0 0,z7 8 10 64]) (.seq (.reg [z5 65 1 4,z5 66 1 4,zE 67 66,zi 68 67 1,qc 69 1 65 68,z7 1 4 69]) (.seq (.reg [z4 70 7 10,z5 71 1 70,zE 72 71,zC 73 0]) (.block 6 (.loop (.seq (.reg [zN 74 73 72]) (.seq (.cond (.tmp 74) .skip (.exit 6)) (.seq (.block 7 (.seq (.reg [z8 75 6 71 73,z9 76 6 75,zp 12 0 0 0 0 0 0,z7 6
 12 76]) (.seq (.reg [z3 77 5,z4 78 0 12,z9 79 3 78,qK 80 77 79]) (.reg [z3 81 5,z4 82 3 12,z9 83 3 82,qK 84 81 83])))) (.reg [zG 85 73 1,z3 73 85]))))))))))))) (.seq (.reg [z5 86 1 3,z3 2 86]) .ret)))))))
theorem t157:Tryz.f157.body.bind (trC e157)=some c157:=by kernel_rfl
theorem r157:Tryz.f157.results.toList.mapM (trR Tryz.prog)=some [.tmp 2]:=by kernel_rfl
theorem fn157{args:List Value}{M:Mem}{post:Value→Mem→Prop}(hl:args.length≤87)(h:VC e157 c157 (fnQ [.tmp 2] post) (initS args 87) M):Fn Tryz.prog 157 args M post:=
 Fn.of' (E:=e157) Tryz.func157 t157 rfl r157 mixed hl h
noncomputable def e168:Env:=⟨Tryz.prog,[4,23],25,[]⟩
noncomputable def c168:C:=
 .seq (.reg [zT 4 0]) (.seq (.reg [z5 6 1 1,z9 7 3 4,zL 8 124 6 7,z3 5 8]) (.seq (.reg [z3 9 5,qm 10 9 0,z3 11 10,zF 12 11 1 2,zJ 13 11 5,zj 14 11 1 12 13,zF 15 11 1 14,qA 16 11 15,zK 17 11 16]) (.cond (.tmp 17) (.seq (.reg [z5 18 1 2,z3 19 5,z8 20 1 18 19,jC 1 20]) (.reg [z5 21 1 3,z3 22 5,qV 23 1 1 0 0 1 22,qQ 24 1 8 0 21 23,z7 1 3 24])) .skip)))
theorem t168:Tryz.f168.body.bind (trC e168)=some c168:=by kernel_rfl
theorem r168:Tryz.f168.results.toList.mapM (trR Tryz.prog)=some []:=by kernel_rfl
theorem fn168{args:List Value}{M:Mem}{post:Value→Mem→Prop}(hl:args.length≤25)(h:VC e168 c168 (fnQ [] post) (initS args 25) M):Fn Tryz.prog 168 args M post:=
 Fn.of' (E:=e168) Tryz.func168 t168 rfl r168 mixed hl h
noncomputable def e156:Env:=⟨Tryz.prog,[8,10,13,14,16,139],143,[]⟩
noncomputable def c156:C:=
 .seq (.reg [qd 1 0,zx 2 0 0]) (.seq (.reg [z5 18 1 1,z6 19 18,z4 20 4 19,z5 21 1 20,zE 22 21,qv 23 1 1 22 22,ql 3 0 0,z7 1 3 23]) (.seq (.reg [qq 24,z3 4 24]) (.seq (.reg [ql 5 0 0]) (.seq (.reg [⟨some 25,none,.mkfn 167 [] [.tmp 1,.tmp 3,.tmp 5]⟩,z3 6 25]) (.seq (.seq (.reg [z5 26 1 1,z6 27 26,z4 28 3 27,z5 29 1 28,zE 30 29,zC 31 0]) (.block 0 (.loop (.seq (.reg [zN 32 31 30]) (.seq (.cond
 (.tmp 32) .skip (.exit 0)) (.seq (.block 1 (.seq (.reg [z8 33 3 29 31,z9 34 3 33,zk 8 0 0 0,z7 3 8 34]) (.reg [z3 35 6,z9 36 3 8,qK 37 35 36]))) (.reg [zG 38 31 1,z3 31 38]))))))) (.seq (.seq (.reg [z5 39 1 1,z6 40 39,z4 41 4 40,z5 42 1 41,zE 43 42,zC 44 0]) (.block 2 (.loop (.seq (.reg [zN 45 44 43]) (.seq (.cond (.tmp 45) .skip (.exit 2)) (.seq (.block 3 (.seq (.reg [z3 46 44,z8 47 8 42
 44,z9 48 8 47,zX 10 0 0 0 0 0 0 0 0 0,z3 9 46,z7 8 10 48]) (.seq (.reg [z4 49 0 10,z5 50 1 49,zA 51 50 1,z3 52 51,zI 53 52 3 10,zF 54 52 1 53,zY 55 52 54 2,zK 56 52 55]) (.cond (.tmp 56) (.reg [z3 57 6,z3 58 9,q7 59 0 0 0 0 1 2 2 1 58,qK 60 57 59]) .skip)))) (.reg [zG 61 44 1,z3 44 61]))))))) (.seq (.block 4 (.loop (.seq (.seq (.reg [z5 62 1 5,zE 63 62,qP 64 63 0]) (.cond (.tmp 64) .skip
 (.exit 4))) (.block 5 (.seq (.reg [z5 65 1 5,z5 66 1 5,zE 67 66,zi 68 67 1,z8 69 1 65 68,z5 70 1 69,z3 11 70]) (.seq (.reg [z5 71 1 5,z5 72 1 5,zE 73 72,zi 74 73 1,qc 75 1 71 74,z7 1 5 75]) (.seq (.seq (.reg [z3 76 4,z3 77 11,⟨some 78,none,.look true (.slice none 0 0) false (.tmp 76) (.tmp 77)⟩,zE 79 78,zC 80 0]) (.block 6 (.loop (.seq (.reg [zN 81 80 79]) (.seq (.cond (.tmp 81) .skip (.exit
 6)) (.seq (.block 7 (.seq (.reg [z8 82 3 78 80,z9 83 3 82,zk 13 0 0 0,z7 3 13 83]) (.reg [z3 84 6,z9 85 3 13,qK 86 84 85]))) (.reg [zG 87 80 1,z3 80 87]))))))) (.seq (.reg [z3 88 4,z3 89 11,⟨none,none,.mdel (.tmp 88) (.tmp 89)⟩]) (.seq (.reg [z5 90 1 1,z6 91 90,z4 92 4 91,z5 93 1 92,z3 94 11,z8 95 8 93 94,z9 96 8 95,zX 14 0 0 0 0 0 0 0 0 0,z7 8 14 96]) (.seq (.reg [z4 97 7 14,z5 98 1 97,zE
 99 98,zC 100 0]) (.block 8 (.loop (.seq (.reg [zN 101 100 99]) (.seq (.cond (.tmp 101) .skip (.exit 8)) (.seq (.block 9 (.seq (.reg [z8 102 6 98 100,z9 103 6 102,zp 16 0 0 0 0 0 0,z7 6 16 103]) (.seq (.seq (.reg [z4 104 2 14,z5 105 1 104,qe 106 105 1,zA 107 106 0]) (.cond (.tmp 107) (.reg [z3 108 6,z4 109 0 16,z9 110 3 109,qK 111 108 110]) .skip)) (.seq (.seq (.reg [z4 112 2 14,z5 113 1 112,
 qe 114 113 2,zo 115 114 0]) (.cond (.tmp 115) (.exit 9) .skip)) (.seq (.reg [z5 116 1 1,z4 117 0 16,z9 118 3 117,zL 119 124 116 118,z3 17 119]) (.seq (.reg [z3 120 17,zc 121 120 0,z3 122 121,zP 123 122 1 3,zQ 124 122 17,qB 125 122 1 123 124,zP 126 122 1 125,zR 127 122 126]) (.cond (.tmp 127) (.reg [z3 128 6,z4 129 3 16,z9 130 3 129,qK 131 128 130]) (.reg [z3 132 4,z3 133 17,z3 134 4,z3 135 17,
 ⟨some 136,none,.look true (.slice none 0 0) false (.tmp 134) (.tmp 135)⟩,z4 137 3 16,z9 138 3 137,⟨some 139,none,.bslice true 1 3 [.int .i64 0,.int .i64 0,.int .i64 0] [(0,3,.tmp 138)]⟩,jD 140 3 24 0 0 0 136 139,⟨none,none,.mupd (.tmp 132) (.tmp 133) (.tmp 140)⟩])))))))) (.reg [zG 141 100 1,z3 100 141])))))))))))))))) (.seq (.reg [z5 142 1 3,z3 2 142]) .ret))))))))
theorem t156:Tryz.f156.body.bind (trC e156)=some c156:=by kernel_rfl
theorem r156:Tryz.f156.results.toList.mapM (trR Tryz.prog)=some [.tmp 2]:=by kernel_rfl
theorem fn156{args:List Value}{M:Mem}{post:Value→Mem→Prop}(hl:args.length≤143)(h:VC e156 c156 (fnQ [.tmp 2] post) (initS args 143) M):Fn Tryz.prog 156 args M post:=
 Fn.of' (E:=e156) Tryz.func156 t156 rfl r156 mixed hl h
noncomputable def e167:Env:=⟨Tryz.prog,[4,23],25,[]⟩
noncomputable def c167:C:=
 .seq (.reg [zT 4 0]) (.seq (.reg [z5 6 1 1,z9 7 3 4,zL 8 124 6 7,z3 5 8]) (.seq (.reg [z3 9 5,qm 10 9 0,z3 11 10,zF 12 11 1 2,zJ 13 11 5,zj 14 11 1 12 13,zF 15 11 1 14,qA 16 11 15,zK 17 11 16]) (.cond (.tmp 17) (.seq (.reg [z5 18 1 2,z3 19 5,z8 20 1 18 19,jC 1 20]) (.reg [z5 21 1 3,z3 22 5,qV 23 1 1 0 0 1 22,qQ 24 1 8 0 21 23,z7 1 3 24])) .skip)))
theorem t167:Tryz.f167.body.bind (trC e167)=some c167:=by kernel_rfl
theorem r167:Tryz.f167.results.toList.mapM (trR Tryz.prog)=some []:=by kernel_rfl
theorem fn167{args:List Value}{M:Mem}{post:Value→Mem→Prop}(hl:args.length≤25)(h:VC e167 c167 (fnQ [] post) (initS args 25) M):Fn Tryz.prog 167 args M post:=
 Fn.of' (E:=e167) Tryz.func167 t167 rfl r167 mixed hl h
noncomputable def e155:Env:=⟨Tryz.prog,[7],28,[]⟩
noncomputable def c155:C:=
 .seq (.reg [zC 4 0]) (.seq (.reg [zC 5 0]) (.seq (.seq (.reg [z3 8 0,z6 9 8,z4 10 4 9,z5 11 1 10,zE 12 11,zC 13 0]) (.block 0 (.loop (.seq (.reg [zN 14 13 12]) (.seq (.cond (.tmp 14) .skip (.exit 0)) (.seq (.block 1 (.seq (.reg [z3 15 13,z8 16 8 11 13,z9 17 8 16,zX 7 0 0 0 0 0 0 0 0 0,z3 6 15,z7 8 7 17]) (.seq (.reg [z3 18 1,z3 19 6,z8 20 1 18 19,z5 21 1 20]) (.cond (.tmp 21) (.reg [z3 22
 5,z9 23 8 7,zM 24 144 23,q4 25 22 24,z3 5 25]) .skip)))) (.reg [zG 26 13 1,z3 13 26]))))))) (.seq (.reg [z3 27 5,z3 4 27]) .ret)))
theorem t155:Tryz.f155.body.bind (trC e155)=some c155:=by kernel_rfl
theorem r155:Tryz.f155.results.toList.mapM (trR Tryz.prog)=some [.tmp 4]:=by kernel_rfl
theorem fn155{args:List Value}{M:Mem}{post:Value→Mem→Prop}(hl:args.length≤28)(h:VC e155 c155 (fnQ [.tmp 4] post) (initS args 28) M):Fn Tryz.prog 155 args M post:=
 Fn.of' (E:=e155) Tryz.func155 t155 rfl r155 mixed hl h
noncomputable def e154:Env:=⟨Tryz.prog,[5],44,[(5,25)]⟩
noncomputable def c154:C:=
 .seq (.reg [zC 2 0]) (.seq (.reg [zC 3 (-1)]) (.seq (.seq (.reg [z3 6 0,z6 7 6,z4 8 4 7,z5 9 1 8,zE 10 9,zC 11 0]) (.block 0 (.loop (.seq (.reg [zN 12 11 10]) (.seq (.cond (.tmp 12) .skip (.exit 0)) (.seq (.block 1 (.seq (.reg [z3 13 11,z8 14 8 9 11,z9 15 8 14,zX 5 0 0 0 0 0 0 0 0 0,z3 4 13,z7 8 5 15]) (.seq (.dreg 25 [z4 16 0 5,z5 17 1 16,zA 18 17 1,z3 19 18,zI 20 19 3 5,zF 21 19 1 20,zY
 22 19 21 2,zK 23 19 22,z3 24 23,zJ 25 24 3,⟨some 26,some (24,true),.bin .lss (.tmp 25) (.const (.int .i64 0))⟩,zJ 27 24 26,zO 28 27 4 5,zP 29 27 1 28,zQ 30 27 0,za 31 27 30,zO 32 27 4 31,zP 33 27 1 32,zQ 34 27 3,qB 35 27 8 33 34,zO 36 27 4 35,zP 37 27 1 36,qZ 38 27 29 37,qD 39 24 27 38,zK 40 24 39]) (.cond (.tmp 40) (.reg [z3 41 4,z3 3 41]) .skip)))) (.reg [zG 42 11 1,z3 11 42]))))))) (.seq
 (.reg [z3 43 3,z3 2 43]) .ret)))
theorem t154:Tryz.f154.body.bind (trC e154)=some c154:=by kernel_rfl
theorem r154:Tryz.f154.results.toList.mapM (trR Tryz.prog)=some [.tmp 2]:=by kernel_rfl
theorem fn154{args:List Value}{M:Mem}{post:Value→Mem→Prop}(hl:args.length≤44)(h:VC e154 c154 (fnQ [.tmp 2] post) (initS args 44) M):Fn Tryz.prog 154 args M post:=
 Fn.of' (E:=e154) Tryz.func154 t154 rfl r154 mixed hl h
noncomputable def e101:Env:=⟨Tryz.prog,[7,9,31],33,[]⟩
noncomputable def c101:C:=
 .seq (.reg [zT 7 3,zx 8 0 0]) (.seq (.reg [z3 10 0,z9 11 3 7,zL 12 94 10 11,zk 9 0 0 0,z7 3 9 12]) (.seq (.seq (.reg [z4 13 0 9,z5 14 1 13,zo 15 14 2,z3 16 15,zQ 17 16 1,zO 18 16 2 9,zP 19 16 1 18,qB 20 16 1 17 19,zP 21 16 1 20,zR 22 16 21]) (.cond (.tmp 22) (.seq (.reg [z3 23 2,z3 8 23]) .ret) .skip)) (.seq (.reg [z3 24 1,z4 25 2 9,z5 26 1 25,z8 27 1 24 26,jC 1 27]) (.seq (.reg [z3 28 2,z4
 29 2 9,z5 30 1 29,qV 31 1 1 0 0 1 30,qQ 32 1 8 0 28 31,z3 8 32]) .ret))))
theorem t101:Tryz.f101.body.bind (trC e101)=some c101:=by kernel_rfl
theorem r101:Tryz.f101.results.toList.mapM (trR Tryz.prog)=some [.tmp 8]:=by kernel_rfl
theorem fn101{args:List Value}{M:Mem}{post:Value→Mem→Prop}(hl:args.length≤33)(h:VC e101 c101 (fnQ [.tmp 8] post) (initS args 33) M):Fn Tryz.prog 101 args M post:=
 Fn.of' (E:=e101) Tryz.func101 t101 rfl r101 mixed hl h
noncomputable def e134:Env:=⟨Tryz.prog,[5,34],89,[(8,28)]⟩
noncomputable def c134:C:=
 .seq (.reg [zx 2 0 0]) (.seq (.reg [zx 3 0 0]) (.seq (.seq (.reg [z3 9 0,z6 10 9,z4 11 4 10,z5 12 1 11,zE 13 12,zC 14 0]) (.block 0 (.loop (.seq (.reg [zN 15 14 13]) (.seq (.cond (.tmp 15) .skip (.exit 0)) (.seq (.block 1 (.seq (.reg [z3 16 14,z8 17 8 12 14,z9 18 8 17,zX 5 0 0 0 0 0 0 0 0 0,z3 4 16,z7 8 5 18]) (.seq (.seq (.reg [z4 19 0 5,z5 20 1 19,zo 21 20 1,z3 22 21,zO 23 22 3 5,zP 24 22
 1 23,zz 25 22 24 1,zQ 26 22 25,zI 27 26 3 5,zF 28 26 1 27,qC 29 26 28 2,q8 30 22 26 29,zR 31 22 30]) (.cond (.tmp 31) (.exit 1) .skip)) (.seq (.reg [z3 32 3,z3 33 4,qV 34 1 1 0 0 1 33,qQ 35 1 8 0 32 34,z3 3 35]) (.seq (.reg [z3 36 3,zE 37 36,zi 38 37 1,z3 6 38]) (.block 2 (.loop (.seq (.seq (.dreg 28 [z3 39 6,qP 40 39 0,z3 41 40,zJ 42 41 0,zU 43 41 42,zI 44 41 4 43,zF 45 41 1 44,zJ 46 41 3,zJ
 47 41 6,⟨some 48,some (41,true),.bin .sub (.tmp 47) (.const (.int .i64 1))⟩,zj 49 41 1 46 48,zF 50 41 1 49,zj 51 41 8 45 50,zI 52 41 4 51,zF 53 41 1 52,zJ 54 41 0,zU 55 41 54,zI 56 41 4 55,zF 57 41 1 56,zJ 58 41 3,zJ 59 41 6,zj 60 41 1 58 59,zF 61 41 1 60,zj 62 41 8 57 61,zI 63 41 4 62,zF 64 41 1 63,⟨some 65,some (41,true),.bin .gtr (.tmp 53) (.tmp 64)⟩,zK 66 41 65]) (.cond (.tmp 66) .skip (.exit
 2))) (.seq (.block 3 (.seq (.reg [z3 69 3,z3 70 6,zi 71 70 1,z8 72 1 69 71,z5 73 1 72,z3 7 73]) (.seq (.reg [z3 74 3,z3 75 6,z8 76 1 74 75,z5 77 1 76,z3 8 77]) (.seq (.reg [z3 78 3,z3 79 6,zi 80 79 1,z3 81 8,z8 82 1 78 80,z7 1 82 81]) (.reg [z3 83 3,z3 84 6,z3 85 7,z8 86 1 83 84,z7 1 86 85]))))) (.reg [z3 67 6,zi 68 67 1,z3 6 68])))))))))) (.reg [zG 87 14 1,z3 14 87]))))))) (.seq (.reg [z3
 88 3,z3 2 88]) .ret)))
theorem t134:Tryz.f134.body.bind (trC e134)=some c134:=by kernel_rfl
theorem r134:Tryz.f134.results.toList.mapM (trR Tryz.prog)=some [.tmp 2]:=by kernel_rfl
theorem fn134{args:List Value}{M:Mem}{post:Value→Mem→Prop}(hl:args.length≤89)(h:VC e134 c134 (fnQ [.tmp 2] post) (initS args 89) M):Fn Tryz.prog 134 args M post:=
 Fn.of' (E:=e134) Tryz.func134 t134 rfl r134 mixed hl h
noncomputable def e102:Env:=⟨Tryz.prog,[7,12],85,[(16,13)]⟩
noncomputable def c102:C:=
 .seq (.reg [zx 2 0 0,zx 3 0 0]) (.seq (.reg [z3 13 0,z6 14 13,z4 15 4 14,z5 16 1 15,zE 17 16,qv 18 1 1 17 17,z3 4 18]) (.seq (.reg [zx 5 0 0]) (.seq (.seq (.reg [z3 19 0,z6 20 19,z4 21 3 20,z5 22 1 21,zE 23 22,zC 24 0]) (.block 0 (.loop (.seq (.reg [zN 25 24 23]) (.seq (.cond (.tmp 25) .skip (.exit 0)) (.seq (.block 1 (.seq (.reg [z8 26 3 22 24,z9 27 3 26,zk 7 0 0 0,z7 3 7 27]) (.reg [z3
 28 0,z3 29 4,z3 30 5,z9 31 3 7,qR 32 101 28 29 30 31,z3 5 32]))) (.reg [zG 33 24 1,z3 24 33]))))))) (.seq (.seq (.reg [z3 34 0,zM 35 134 34,zE 36 35,zC 37 0]) (.block 2 (.loop (.seq (.reg [zN 38 37 36]) (.seq (.cond (.tmp 38) .skip (.exit 2)) (.seq (.block 3 (.seq (.reg [z8 39 1 35 37,z5 40 1 39,z3 9 40]) (.reg [z3 41 0,z3 42 4,z3 43 5,z3 44 9,q7 45 0 0 0 0 1 2 2 1 44,qR 46 101 41 42 43 45,
 z3 5 46]))) (.reg [zG 47 37 1,z3 37 47]))))))) (.seq (.seq (.reg [zC 10 0]) (.block 4 (.loop (.seq (.seq (.reg [z3 48 10,z3 49 5,zE 50 49,zN 51 48 50]) (.cond (.tmp 51) .skip (.exit 4))) (.seq (.block 5 (.seq (.dreg 13 [z3 54 0,z6 55 54,z4 56 4 55,z5 57 1 56,z3 58 5,z3 59 10,z8 60 1 58 59,z5 61 1 60,z8 62 8 57 61,z4 63 7 62,z5 64 1 63,zE 65 64,zC 66 0]) (.block 6 (.loop (.seq (.reg [zN 67 66
 65]) (.seq (.cond (.tmp 67) .skip (.exit 6)) (.seq (.block 7 (.seq (.reg [z8 68 6 64 66,z9 69 6 68,zp 12 0 0 0 0 0 0,z7 6 12 69]) (.seq (.reg [z3 70 0,z3 71 4,z3 72 5,z4 73 0 12,z9 74 3 73,qR 75 101 70 71 72 74,z3 5 75]) (.reg [z3 76 0,z3 77 4,z3 78 5,z4 79 3 12,z9 80 3 79,qR 81 101 76 77 78 80,z3 5 81])))) (.reg [zG 82 66 1,z3 66 82])))))))) (.reg [z3 52 10,zG 53 52 1,z3 10 53])))))) (.seq
 (.reg [z3 83 4,z3 84 5,z3 2 83,z3 3 84]) .ret))))))
theorem t102:Tryz.f102.body.bind (trC e102)=some c102:=by kernel_rfl
theorem r102:Tryz.f102.results.toList.mapM (trR Tryz.prog)=some [.tmp 2,.tmp 3]:=by kernel_rfl
theorem fn102{args:List Value}{M:Mem}{post:Value→Mem→Prop}(hl:args.length≤85)(h:VC e102 c102 (fnQ [.tmp 2,.tmp 3] post) (initS args 85) M):Fn Tryz.prog 102 args M post:=
 Fn.of' (E:=e102) Tryz.func102 t102 rfl r102 mixed hl h
noncomputable def e62:Env:=⟨Tryz.prog,[6,8,11,13,14],123,[(20,11)]⟩
noncomputable def c62:C:=
 .seq (.reg [zx 2 0 0]) (.seq (.reg [z3 15 0,z6 16 15,z4 17 4 16,z5 18 1 17,zE 19 18,qv 20 1 1 19 19,z3 3 20]) (.seq (.reg [zx 4 0 0]) (.seq (.seq (.reg [z3 21 0,z6 22 21,z4 23 3 22,z5 24 1 23,zE 25 24,zC 26 0]) (.block 0 (.loop (.seq (.reg [zN 27 26 25]) (.seq (.cond (.tmp 27) .skip (.exit 0)) (.seq (.block 1 (.seq (.reg [z8 28 3 24 26,z9 29 3 28,zk 6 0 0 0,z7 3 6 29]) (.reg [z3 30 0,z3 31
 3,z3 32 4,z9 33 3 6,qR 34 101 30 31 32 33,z3 4 34]))) (.reg [zG 35 26 1,z3 26 35]))))))) (.seq (.seq (.reg [z3 36 0,z6 37 36,z4 38 4 37,z5 39 1 38,zE 40 39,zC 41 0]) (.block 2 (.loop (.seq (.reg [zN 42 41 40]) (.seq (.cond (.tmp 42) .skip (.exit 2)) (.seq (.block 3 (.seq (.reg [z3 43 41,z8 44 8 39 41,z9 45 8 44,zX 8 0 0 0 0 0 0 0 0 0,z3 7 43,z7 8 8 45]) (.seq (.reg [z4 46 3 8,z5 47 1 46,zA
 48 47 2]) (.cond (.tmp 48) (.reg [z3 49 0,z3 50 3,z3 51 4,z3 52 7,q7 53 0 0 0 0 1 2 2 1 52,qR 54 101 49 50 51 53,z3 4 54]) .skip)))) (.reg [zG 55 41 1,z3 41 55]))))))) (.seq (.reg [zC 9 (-1)]) (.seq (.block 4 (.loop (.seq (.seq (.reg [z3 56 9,z3 57 4,zE 58 57,zW 59 56 58]) (.cond (.tmp 59) .skip (.exit 4))) (.block 5 (.seq (.reg [z3 60 4,zE 61 60,z3 9 61]) (.seq (.reg [zC 10 0]) (.block 6
 (.loop (.seq (.seq (.reg [z3 62 10,z3 63 4,zE 64 63,zN 65 62 64]) (.cond (.tmp 65) .skip (.exit 6))) (.seq (.block 7 (.seq (.dreg 11 [z3 68 0,z6 69 68,z4 70 4 69,z5 71 1 70,z3 72 4,z3 73 10,z8 74 1 72 73,z5 75 1 74,z8 76 8 71 75,z9 77 8 76,zX 11 0 0 0 0 0 0 0 0 0,z7 8 11 77]) (.seq (.reg [z4 78 7 11,z5 79 1 78,zE 80 79,zC 81 0]) (.block 8 (.loop (.seq (.reg [zN 82 81 80]) (.seq (.cond (.tmp
 82) .skip (.exit 8)) (.seq (.block 9 (.seq (.reg [z8 83 6 79 81,z9 84 6 83,zp 13 0 0 0 0 0 0,z7 6 13 84]) (.seq (.seq (.reg [z4 85 2 11,z5 86 1 85,qe 87 86 1,zA 88 87 0]) (.cond (.tmp 88) (.reg [z3 89 0,z3 90 3,z3 91 4,z4 92 0 13,z9 93 3 92,qR 94 101 89 90 91 93,z3 4 94]) .skip)) (.seq (.reg [z3 95 0,z4 96 0 13,z9 97 3 96,zL 98 94 95 97,zk 14 0 0 0,z7 3 14 98]) (.seq (.reg [z4 99 2 11,z5 100
 1 99,qe 101 100 2,zA 102 101 0,z3 103 102,zI 104 103 0 14,zF 105 103 1 104,qC 106 103 105 2,zJ 107 103 106,zQ 108 107 3,zO 109 107 2 14,zP 110 107 1 109,qB 111 107 1 108 110,zP 112 107 1 111,qD 113 103 107 112,zK 114 103 113]) (.cond (.tmp 114) (.reg [z3 115 0,z3 116 3,z3 117 4,z4 118 3 13,z9 119 3 118,qR 120 101 115 116 117 119,z3 4 120]) .skip)))))) (.reg [zG 121 81 1,z3 81 121])))))))))
 (.reg [z3 66 10,zG 67 66 1,z3 10 67]))))))))))) (.seq (.reg [z3 122 3,z3 2 122]) .ret)))))))
theorem t62:Tryz.f62.body.bind (trC e62)=some c62:=by kernel_rfl
theorem r62:Tryz.f62.results.toList.mapM (trR Tryz.prog)=some [.tmp 2]:=by kernel_rfl
theorem fn62{args:List Value}{M:Mem}{post:Value→Mem→Prop}(hl:args.length≤123)(h:VC e62 c62 (fnQ [.tmp 2] post) (initS args 123) M):Fn Tryz.prog 62 args M post:=
 Fn.of' (E:=e62) Tryz.func62 t62 rfl r62 mixed hl h
noncomputable def e61:Env:=⟨Tryz.prog,[],30,[]⟩
noncomputable def c61:C:=
 .seq (.reg [zC 4 0]) (.seq (.reg [zC 5 0]) (.seq (.seq (.reg [z3 8 1,zE 9 8,zC 10 0]) (.block 0 (.loop (.seq (.reg [zN 11 10 9]) (.seq (.cond (.tmp 11) .skip (.exit 0)) (.seq (.block 1 (.seq (.reg [z3 12 10,z8 13 1 8 10,z5 14 1 13,z3 6 12,z3 7 14]) (.seq (.reg [z3 15 7]) (.cond (.tmp 15) (.reg [z3 16 5,z3 17 0,z6 18 17,z4 19 4 18,z5 20 1 19,z3 21 6,z8 22 8 20 21,z4 23 7 22,z5 24 1 23,zE 25
 24,qT 26 1 25,q4 27 16 26,z3 5 27]) .skip)))) (.reg [zG 28 10 1,z3 10 28]))))))) (.seq (.reg [z3 29 5,z3 4 29]) .ret)))
theorem t61:Tryz.f61.body.bind (trC e61)=some c61:=by kernel_rfl
theorem r61:Tryz.f61.results.toList.mapM (trR Tryz.prog)=some [.tmp 4]:=by kernel_rfl
theorem fn61{args:List Value}{M:Mem}{post:Value→Mem→Prop}(hl:args.length≤30)(h:VC e61 c61 (fnQ [.tmp 4] post) (initS args 30) M):Fn Tryz.prog 61 args M post:=
 Fn.of' (E:=e61) Tryz.func61 t61 rfl r61 mixed hl h
noncomputable def e63:Env:=⟨Tryz.prog,[],13,[]⟩
noncomputable def c63:C:=
 .seq (.reg [zC 2 0]) (.seq (.reg [z3 6 0,zM 7 102 6,z3 5 7,qE 8 5 0,qE 9 5 1,z3 3 8,z3 4 9]) (.seq (.reg [z3 10 0,z3 11 3,zL 12 61 10 11,z3 2 12]) .ret))
theorem t63:Tryz.f63.body.bind (trC e63)=some c63:=by kernel_rfl
theorem r63:Tryz.f63.results.toList.mapM (trR Tryz.prog)=some [.tmp 2]:=by kernel_rfl
theorem fn63{args:List Value}{M:Mem}{post:Value→Mem→Prop}(hl:args.length≤13)(h:VC e63 c63 (fnQ [.tmp 2] post) (initS args 13) M):Fn Tryz.prog 63 args M post:=
 Fn.of' (E:=e63) Tryz.func63 t63 rfl r63 mixed hl h
noncomputable def e100:Env:=⟨Tryz.prog,[5],39,[(5,20)]⟩
noncomputable def c100:C:=
 .seq (.reg [zC 2 0]) (.seq (.reg [zC 3 (-1)]) (.seq (.seq (.reg [z3 6 0,z6 7 6,z4 8 4 7,z5 9 1 8,zE 10 9,zC 11 0]) (.block 0 (.loop (.seq (.reg [zN 12 11 10]) (.seq (.cond (.tmp 12) .skip (.exit 0)) (.seq (.block 1 (.seq (.reg [z3 13 11,z8 14 8 9 11,z9 15 8 14,zX 5 0 0 0 0 0 0 0 0 0,z3 4 13,z7 8 5 15]) (.seq (.dreg 20 [z4 16 3 5,z5 17 1 16,zA 18 17 2,z3 19 18,zJ 20 19 3,⟨some 21,some (19,
 true),.bin .lss (.tmp 20) (.const (.int .i64 0))⟩,zJ 22 19 21,zO 23 22 4 5,zP 24 22 1 23,zQ 25 22 0,za 26 22 25,zO 27 22 4 26,zP 28 22 1 27,zQ 29 22 3,qB 30 22 8 28 29,zO 31 22 4 30,zP 32 22 1 31,qZ 33 22 24 32,qD 34 19 22 33,zK 35 19 34]) (.cond (.tmp 35) (.reg [z3 36 4,z3 3 36]) .skip)))) (.reg [zG 37 11 1,z3 11 37]))))))) (.seq (.reg [z3 38 3,z3 2 38]) .ret)))
theorem t100:Tryz.f100.body.bind (trC e100)=some c100:=by kernel_rfl
theorem r100:Tryz.f100.results.toList.mapM (trR Tryz.prog)=some [.tmp 2]:=by kernel_rfl
theorem fn100{args:List Value}{M:Mem}{post:Value→Mem→Prop}(hl:args.length≤39)(h:VC e100 c100 (fnQ [.tmp 2] post) (initS args 39) M):Fn Tryz.prog 100 args M post:=
 Fn.of' (E:=e100) Tryz.func100 t100 rfl r100 mixed hl h
end Go.Proofs.YtpleoapljeffiaaGreatDoor.E
set_option maxHeartbeats 4000000
namespace Go.Proofs.YtpleoapljeffiaaGreatDoor.E
open Go
open Classical
theorem sound_q{m:Mem}{x:HX}(h:Has m x.body):Qt Tryz.prog 43 [x.v] m (.bool (decide (okH x.H=0))):=by
 refine qt_of (fnA_of (fun h=>fn43 (by simp) h) ?_)
 repeat' (first|refine xx ?_|(refine k_L ?_;(refine k_c ?_;refine a_cq rfl (fun m hm=>implHeapOk_q (x:=x) (has_g h hm)) ?_))|fail)
 exact fa_q (by simp) (fun _ _=>rfl) rfl
theorem un_le{a b M:Mem}(h1:a.le M)(h2:b.le M):(a.un b).le M:=by
 intro x k hk
 cases ha:a x with
 |some k'=>rw[un_l ha]at hk;cases hk;exact h1 x k ha
 |none=>rw[un_n ha]at hk;exact h2 x k hk
theorem toHeap_a{M:Mem}{x:HS}(hb:x.H.bulk≤1048576)(hx:RHVR M x):FnA Tryz.prog 16 [x.v] [ro M] (fun v As=>∃y:HX,v=y.v∧y.H=x.H∧As=ro M::y.body):=
 ⟨fun m hm=>by
   obtain⟨a,e',d,rfl,h1,h2⟩:=hm
   have h1:a=M:=h1
   have h2:e'=emp:=h2
   subst h1;subst h2
   rw[un_emp]
   refine(toHeap_f hb hx).mono ?_
   rintro v M' ⟨y,rfl,hy,hw,hf,hle⟩
   obtain⟨x',rfl,hs⟩:=body_w hw
   refine⟨ro a::x'.body,a.un (resL M' x'.hs.fp),un_le hle (resL_le _ _),⟨a,_,?_,rfl,rfl,hs⟩,x',rfl,hy,rfl⟩
   intro b
   by_cases hb:b∈x'.hs.fp
   ·exact .inl (hf b hb)
   ·right;unfold resL;rw[if_neg hb]⟩
theorem has_p{m:Mem}{As Bs F:List Asr}(hm:star As m)(hp:Pm As Bs F:=by exact pmt):Has m Bs:=by
 obtain⟨a,b,d,rfl,h,_⟩:=star_append.1 (hp.out m hm)
 exact⟨a,le_l _ _,h⟩
theorem qt_e{P:Program}{f:FuncId}{args:List Value}{m:Mem}{r r':Value}(h:Qt P f args m r)(e:r=r'):Qt P f args m r':=e▸h
noncomputable def ndG(H:Heap):Nat→Int
 |0=> -1
 |i+1=>if(H.getC i).last=2∧(ndG H i<0∨(H.getC i).born<(H.getC (ndG H i)).born)then(i:Int)else ndG H i
theorem ndG_lt(H:Heap):∀i,-1≤ndG H i∧ndG H i<i
 |0=>by simp[ndG]
 |i+1=>by
  have:=ndG_lt H i
  unfold ndG
  split<;>omega
theorem getC_nat{H:Heap}{i:Nat}{c:Cell}(h:H.cells[i]?=some c):H.getC (i:Int)=c:=by
 unfold Heap.getC
 simp[h]
theorem last2{H:Heap}(h:R2 H){i:Nat}{c:Cell}(hc:H.cells[i]?=some c)(hl:c.last=2):c.state=1:=by
 rcases h.each i c hc with h|h|h
 ·have:=h.2.1.2.2.1;omega
 ·have:=h.2.1.2.2.1;omega
 ·exact h.1
theorem nextDueLoop_q{m:Mem}{a:Nat}{x:HX}(h:Has m (hp a x))(h2:R2 x.H):Qt Tryz.prog 154 [ptr a] m (.int .i64 (ndG x.H x.H.cells.length)):=by
 have hb0:=h.lens
 have hl:=x.len
 refine qt_of (fnA_of (fun h=>fn154 (by simp) h) ?_)
 repeat' (first|refine xx ?_|fail)
 refine g_range x.xs.length (fun n:Int=>[(0,.v (ptr a)),(3,.v (.int .i64 n)),(9,.v (.slice x.cd.a x.xs.length x.cd.cap))]) (fun _=>[ro m]) (fun i n=>n=ndG x.H i) (-1) rfl (fun i n hi hn=>?_) (fun n hn=>?_)
 ·obtain⟨y,gy,gc⟩:=HX.at hi
  have gi:=getC_nat gc
  have hb:=ndG_lt x.H i
  have hs:=last2 h2 gc
  by_cases hn0:n<0
  ·have e:ndG x.H (i+1)=if y.c.last=2 then(i:Int)else n:=by
    show(if _ then _ else _)=_
    rw[gi,←hn];simp[hn0]
   repeat' (first|refine xx ?_|(refine xy ?_ ?_<;>intro hb<;>try(exfalso;omega))|fail)
   ·exact r_nx i (by rw[e];simp_all)
   ·exact r_nx n (by rw[e];simp_all)
   ·exact r_nx n (by rw[e,if_neg];intro hc;first|exact absurd (hs hc) ‹_›|exact absurd (hs hc.1) ‹_›)
  ·obtain⟨z,gz,gd⟩:=HX.atI (x:=x) (i:=n) (by omega) (by omega)
   have e:ndG x.H (i+1)=if y.c.last=2∧y.c.born<z.c.born then(i:Int)else n:=by
    show(if _ then _ else _)=_
    rw[gi,←hn,gd];simp[hn0]
   repeat' (first|refine xx ?_|(refine xy ?_ ?_<;>intro hb<;>try(exfalso;omega))|fail)
   ·exact r_nx i (by rw[e];simp_all)
   ·exact r_nx n (by rw[e,if_neg (fun hc=>absurd hc.2 ‹_›)])
   ·exact r_nx n (by rw[e];simp_all)
   ·exact r_nx n (by rw[e,if_neg];intro hc;first|exact absurd (hs hc) ‹_›|exact absurd (hs hc.1) ‹_›)
 ·subst hn
  repeat' (first|refine xx ?_|fail)
  exact fa_q (by simp) (fun _ _=>rfl) (by rw[hl])
theorem l4next_q{m:Mem}{a:Nat}{x:HX}(h:Has m (hp a x)):Qt Tryz.prog 100 [ptr a] m (.int .i64 (ndG x.H x.H.cells.length)):=by
 have hb0:=h.lens
 have hl:=x.len
 refine qt_of (fnA_of (fun h=>fn100 (by simp) h) ?_)
 repeat' (first|refine xx ?_|fail)
 refine g_range x.xs.length (fun n:Int=>[(0,.v (ptr a)),(3,.v (.int .i64 n)),(9,.v (.slice x.cd.a x.xs.length x.cd.cap))]) (fun _=>[ro m]) (fun i n=>n=ndG x.H i) (-1) rfl (fun i n hi hn=>?_) (fun n hn=>?_)
 ·obtain⟨y,gy,gc⟩:=HX.at hi
  have gi:=getC_nat gc
  have hb:=ndG_lt x.H i
  by_cases hn0:n<0
  ·have e:ndG x.H (i+1)=if y.c.last=2 then(i:Int)else n:=by
    show(if _ then _ else _)=_
    rw[gi,←hn];simp[hn0]
   repeat' (first|refine xx ?_|(refine xy ?_ ?_<;>intro hb<;>try(exfalso;omega))|fail)
   ·exact r_nx i (by rw[e];simp_all)
   ·exact r_nx n (by rw[e];simp_all)
  ·obtain⟨z,gz,gd⟩:=HX.atI (x:=x) (i:=n) (by omega) (by omega)
   have e:ndG x.H (i+1)=if y.c.last=2∧y.c.born<z.c.born then(i:Int)else n:=by
    show(if _ then _ else _)=_
    rw[gi,←hn,gd];simp[hn0]
   repeat' (first|refine xx ?_|(refine xy ?_ ?_<;>intro hb<;>try(exfalso;omega))|fail)
   ·exact r_nx i (by rw[e];simp_all)
   ·exact r_nx n (by rw[e,if_neg (fun hc=>absurd hc.2 ‹_›)])
   ·exact r_nx n (by rw[e];simp_all)
 ·subst hn
  repeat' (first|refine xx ?_|fail)
  exact fa_q (by simp) (fun _ _=>rfl) (by rw[hl])
def Heap.tgt(H:Heap)(w:Word):Option Nat:=if(H.lead w).kind=2 then some (H.lead w).at_.toNat else none
inductive Reached (H:Heap):Nat→Prop
 |reg {w:Word} {j:Nat}:w∈H.regs→H.tgt w=some j→Reached H j
 |root {i:Nat} {c:Cell}:H.cells[i]?=some c→Root c→Reached H i
 |pair {i j:Nat} {c:Cell} {p:Pair} {w:Word}:Reached H i→H.cells[i]?=some c→p∈c.pairs→(w=p.key∨w=p.val)→H.tgt w=some j→Reached H j
theorem lead_kind{H:Heap}{w:Word}:(H.lead w).kind=2↔w.kind=2:=by
 unfold Heap.lead
 split
 ·rename_i h;simp[h.1]
 ·rfl
theorem lead_at{H:Heap}(h:R2 H){w:Word}(hf:Formed H w)(hk:w.kind=2):0≤(H.lead w).at_∧(H.lead w).at_<H.cells.length:=by
 have hat:=hf.at hk
 unfold Heap.lead
 split
 ·rename_i hc
  obtain⟨c,hcc⟩:∃c,H.cells[w.at_.toNat]?=some c:=⟨_,List.getElem?_eq_getElem (by omega)⟩
  have hg:H.getC w.at_=c:=by unfold Heap.getC;simp[hcc]
  have hcc':=hcc
  rcases h.each _ c hcc with h1|h1|h1
  ·rw[hg]at hc;have:=h1.1;omega
  ·rw[hg]
   have:=h1.2.2.2.1
   simp only at this⊢
   omega
  ·rw[hg]at hc;have:=h1.1;omega
 ·exact hat
theorem tgt_lt{H:Heap}(h:R2 H){w:Word}(hf:Formed H w){j:Nat}(ht:H.tgt w=some j):j<H.cells.length∧(H.lead w).kind=2∧(H.lead w).at_=j:=by
 unfold Heap.tgt at ht
 split at ht
 ·rename_i hk
  simp only[Option.some.injEq]at ht
  have:=lead_at h hf (lead_kind.1 hk)
  exact⟨by omega,hk,by omega⟩
 ·cases ht
def mkW(H:Heap)(s:List Bool×List Int)(w:Word):List Bool×List Int:=
 match H.tgt w with
 |some j=>if s.1[j]?=some false then(s.1.set j true,s.2++[(j:Int)])else s
 |none=>s
def Hit(H:Heap)(seen:List Bool)(w:Word):Prop:=∀j,H.tgt w=some j→seen[j]?=some true
structure Mk (H:Heap) (S:Nat→Prop) (s:List Bool×List Int):Prop where
 len:s.1.length=H.cells.length
 snd:∀j,s.1[j]?=some true→S j
 stk:∀g,g∈s.2→∃j:Nat,g=j∧s.1[j]?=some true
 cnt:s.2.length+s.1.count false≤H.cells.length
structure Grow (s t:List Bool×List Int):Prop where
 mono:∀j:Nat,s.1[j]?=some true→t.1[j]?=some true
 new:∀j:Nat,t.1[j]?=some true→s.1[j]?=some true∨(j:Int)∈t.2
 old:∀g,g∈s.2→g∈t.2
 msr:2*t.1.count false+t.2.length≤2*s.1.count false+s.2.length
 pre:s.2<+:t.2
theorem Grow.refl(s:List Bool×List Int):Grow s s:=⟨fun _ h=>h,fun _ h=>.inl h,fun _ h=>h,Nat.le_refl _,List.prefix_refl _⟩
theorem Grow.trans{s t u:List Bool×List Int}(h:Grow s t)(k:Grow t u):Grow s u:=
 ⟨fun j hj=>k.mono j (h.mono j hj),fun j hj=>(k.new j hj).elim (fun h'=>(h.new j h').elim .inl fun h''=>.inr (k.old _ h'')) .inr,fun g hg=>k.old g (h.old g hg),Nat.le_trans k.msr h.msr,h.pre.trans k.pre⟩
theorem Hit.grow{H:Heap}{s t:List Bool×List Int}{w:Word}(h:Hit H s.1 w)(g:Grow s t):Hit H t.1 w:=fun j hj=>g.mono j (h j hj)
theorem count_set{l:List Bool}{j:Nat}(h:l[j]?=some false):(l.set j true).count false+1=l.count false:=by
 induction l generalizing j with
 |nil=>simp at h
 |cons b r ih=>
  cases j with
  |zero=>simp only[List.getElem?_cons_zero,Option.some.injEq]at h;subst h;simp
  |succ j=>
   simp only[List.getElem?_cons_succ]at h
   have:=ih h
   simp only[List.set_cons_succ,List.count_cons]
   omega
theorem mkW_ok{H:Heap}{S:Nat→Prop}{s:List Bool×List Int}{w:Word}(h:Mk H S s)(hw:∀j,H.tgt w=some j→j<H.cells.length∧S j):Mk H S (mkW H s w)∧Grow s (mkW H s w)∧Hit H (mkW H s w).1 w:=by
 unfold mkW
 cases ht:H.tgt w with
 |none=>exact⟨h,Grow.refl s,fun j hj=>by rw[ht]at hj;cases hj⟩
 |some j=>
  obtain⟨hj,hS⟩:=hw j ht
  simp only
  by_cases hs:s.1[j]?=some false
  ·rw[if_pos hs]
   have hc:=count_set hs
   have hjl:j<s.1.length:=by rw[h.len];exact hj
   have hset:∀k:Nat,(s.1.set j true)[k]?=some true↔k=j∨s.1[k]?=some true:=by
    intro k
    rw[List.getElem?_set]
    by_cases e:j=k
    ·subst e;simp[hjl]
    ·simp only[e,if_false]
     constructor
     ·exact .inr
     ·rintro(h|h)
      ·exact absurd h.symm e
      ·exact h
   refine⟨⟨by simpa using h.len,fun k hk=>?_,fun g hg=>?_,?_⟩,⟨fun k hk=>(hset k).2 (.inr hk),fun k hk=>?_,fun g hg=>List.mem_append_left _ hg,?_,List.prefix_append _ _⟩,fun k hk=>?_⟩
   ·rcases(hset k).1 hk with rfl|hk
    ·exact hS
    ·exact h.snd k hk
   ·rcases List.mem_append.1 hg with hg|hg
    ·obtain⟨k,e,hk⟩:=h.stk g hg
     exact⟨k,e,(hset k).2 (.inr hk)⟩
    ·exact⟨j,by simpa using hg,(hset j).2 (.inl rfl)⟩
   ·have:=h.cnt
    simp only[List.length_append,List.length_singleton]
    omega
   ·rcases(hset k).1 hk with rfl|hk
    ·exact .inr (List.mem_append_right _ (by simp))
    ·exact .inl hk
   ·simp only[List.length_append,List.length_singleton]
    omega
   ·rw[ht]at hk
    cases hk
    exact(hset j).2 (.inl rfl)
  ·rw[if_neg hs]
   refine⟨h,Grow.refl s,fun k hk=>?_⟩
   rw[ht]at hk
   cases hk
   have hjl:j<s.1.length:=by rw[h.len];exact hj
   rw[List.getElem?_eq_getElem hjl]at hs⊢
   cases hb:s.1[j]with
   |true=>rfl
   |false=>rw[hb]at hs;exact absurd rfl hs
noncomputable def reachL(H:Heap):List Bool:=(List.range H.cells.length).map fun i=>decide (Reached H i)
structure Full (H:Heap) (seen:List Bool):Prop where
 regs:∀w,w∈H.regs→Hit H seen w
 roots:∀(i:Nat) c,H.cells[i]?=some c→Root c→seen[i]?=some true
def Closed(H:Heap)(seen:List Bool)(open_:Nat→Prop):Prop:=∀(i:Nat) c,seen[i]?=some true→¬open_ i→H.cells[i]?=some c→∀p,p∈c.pairs→Hit H seen p.key∧Hit H seen p.val
theorem reach_end{H:Heap}{s:List Bool×List Int}(h:Mk H (Reached H) s)(hf:Full H s.1)(hc:Closed H s.1 fun _=>False):s.1=reachL H:=by
 have key:∀j,Reached H j→s.1[j]?=some true:=by
  intro j hj
  induction hj with
  |reg h1 h2=>exact hf.regs _ h1 _ h2
  |root h1 h2=>exact hf.roots _ _ h1 h2
  |pair _ h2 h3 h4 h5 ih=>
   have:=hc _ _ ih (fun h=>h) h2 _ h3
   rcases h4 with rfl|rfl
   ·exact this.1 _ h5
   ·exact this.2 _ h5
 unfold reachL
 apply List.ext_getElem?
 intro i
 by_cases hi:i<H.cells.length
 ·rw[List.getElem?_map,List.getElem?_range hi]
  simp only[Option.map_some]
  have hl:i<s.1.length:=by rw[h.len];exact hi
  rw[List.getElem?_eq_getElem hl]
  congr 1
  cases hb:s.1[i]with
  |true=>
   have:Reached H i:=h.snd i (by rw[List.getElem?_eq_getElem hl,hb])
   simp[this]
  |false=>
   have:¬Reached H i:=fun hr=>by
    have:=key i hr
    rw[List.getElem?_eq_getElem hl,hb]at this
    cases this
   simp[this]
 ·rw[List.getElem?_eq_none (by rw[h.len];omega),List.getElem?_eq_none (by simp;omega)]
end Go.Proofs.YtpleoapljeffiaaGreatDoor.E
