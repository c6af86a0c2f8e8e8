/- The reference's fourth rule. Conditions: none. -/
import Derived.Test.YtcmllambknfleaaKC9
import Derived.Test.YtcmllambknfleaaJfNextDue
set_option linter.unusedVariables false
set_option linter.unusedSimpArgs false
set_option maxHeartbeats 8000000
set_option maxRecDepth 100000
namespace Go.Proofs.Ytcmllambknfleaa.E
open Go
open Classical
theorem l1words_q {m : Mem} {a : Nat} {x : HX} (h : Has m (hp a x)) : Qt Try.prog 87 [ptr a] m (.bool (decide (R4 x.H))) := by
  have hb := h.lens
  have hl := x.len
  have hnc : (x.hdr.nc : Int) = x.H.cells.length := by rw [hl]; rfl
  refine qt_of (fnA_of (fun h => fn87 (by simp) h) ?_)
  repeat' (first
    | (refine k_L ?_; first | refine a_p rfl ?_ | (refine k_l ?_; refine g_l rfl ?_))
    | refine a_n ?_
    | (refine k_V ?_; first | refine v_seq ?_ | refine v_reg ?_)
    | refine s_n ?_)
  refine g_range x.regs.length (fun _ : Unit => [(0, .v (ptr a)), (14, .v (.slice x.rd.a x.regs.length x.rd.cap))]) (fun _ => [ro m]) (fun i _ => ∀ (j : Nat) w, j < i → x.regs[j]? = some w → Formed x.H w ∧ LeadsWell x.H w False) () (fun j c hj => by omega) (fun i _ hi hv => ?_) (fun _ hr => ?_)
  · obtain ⟨w, gw⟩ : ∃ w, x.regs[i]? = some w := ⟨_, List.getElem?_eq_getElem hi⟩
    have lw := leadsWell_b (H := x.H) (w := w) (b := false) (p := False) (by simp)
    repeat' (first
      | (refine k_L ?_; first | refine a_p rfl ?_ | (refine k_i ?_; refine g_i rfl rfl ?_) | (refine k_ls ?_; refine g_ls rfl ?_) | (refine k_st ?_; refine g_sw rfl rfl rfl rfl (Nat.le_of_ble_eq_true rfl) ?_) | (refine k_al ?_; refine a_al ?_) | (refine k_c ?_; refine a_cq rfl (fun m hm => l1leads_q (w := w) (has_g h hm)) ?_))
      | refine a_n ?_
      | (refine k_V ?_; first | refine v_rv ?_ | refine v_seq ?_ | refine v_reg ?_ | refine v_skip ?_ | (refine v_cnd rfl (fun hb => ?_) (fun hb => ?_) <;> try (exfalso; omega)))
      | refine s_r ?_
      | refine r_rt ?_
      | refine sk_zero ?_
      | refine sk_succ ?_
      | refine wk_nil ?_
      | refine wk_cons ?_)
    · refine q_F fun h4 => ?_
      have := h4.regs w (List.mem_of_getElem? gw)
      have hn : ¬ (Formed x.H w ∧ LeadsWell x.H w (false = true)) := ‹_›
      exact hn ⟨this.1, lw.2 this.2⟩
    · refine r_nx () (fun j v hj hq => ?_)
      by_cases e : j = i
      · subst e; rw [gw] at hq; cases hq
        have hfl : Formed x.H w ∧ LeadsWell x.H w (false = true) := ‹_›
        exact ⟨hfl.1, lw.1 hfl.2⟩
      · exact hv j v (by omega) hq
  repeat' (first
    | (refine k_L ?_; first | refine a_p rfl ?_ | (refine k_l ?_; refine g_l rfl ?_))
    | refine a_n ?_
    | (refine k_V ?_; first | refine v_seq ?_ | refine v_reg ?_)
    | refine s_n ?_)
  refine g_range x.xs.length (fun _ : Unit => [(0, .v (ptr a)), (28, .v (.slice x.cd.a x.xs.length x.cd.cap))]) (fun _ => [ro m]) (fun i _ => ∀ (j : Nat) c, j < i → x.H.cells[j]? = some c → OK4 x.H j c) () (fun j c hj => by omega) (fun i _ hi hv => ?_) (fun _ hv => ?_)
  · obtain ⟨y, gy, gc⟩ := HX.at hi
    have hbp : y.c.pairs.length ≤ 140737488355328 := by obtain ⟨b, l, s⟩ := h; exact (kn_t (kn_t (kn_h (kb_cp gy))) : Kn (hp a x) _).out b s
    have hgc : x.H.getC (i : Int) = y.c := by unfold Heap.getC; rw [List.getD_eq_getElem?_getD]; show (x.H.cells[i]?).getD _ = _; rw [gc]; rfl
    refine v_seq ?_
    repeat' (first
      | (refine k_L ?_; first | refine a_p rfl ?_ | (refine k_i ?_; refine g_i rfl rfl ?_) | (refine k_ls ?_; refine g_ls rfl ?_) | (refine k_st ?_; refine g_sw rfl rfl rfl rfl (Nat.le_of_ble_eq_true rfl) ?_) | (refine k_al ?_; refine a_al ?_))
      | refine a_n ?_
      | (refine k_V ?_; refine v_reg ?_)
      | refine s_n ?_
      | refine sk_zero ?_
      | refine sk_succ ?_
      | refine wk_nil ?_
      | refine wk_cons ?_)
    refine v_seq ?_
    repeat' (first
      | (refine k_L ?_; first | refine a_p rfl ?_ | (refine k_c ?_; refine a_cq rfl (fun m hm => l1doomed_q (i := i) (has_g h hm) (by omega) (by omega)) ?_))
      | refine a_n ?_
      | (refine k_V ?_; refine v_reg ?_)
      | refine s_n ?_)
    refine g_cut (fun _ : Unit => [(0, .v (ptr a)), (5, .v (.int .i64 i)), (6, .box (csw y)), (7, .v (.bool (decide (Doomed x.H i)))), (28, .v (.slice x.cd.a x.xs.length x.cd.cap)), (29, .v (.int .i64 x.xs.length)), (30, .v (.int .i64 i))]) (fun _ => [ro m]) (fun _ => Doomed x.H i → ¬ Root y.c) ?_ (fun _ hdr => ?_)
    · repeat' (first
        | (refine k_L ?_; first | refine a_p rfl ?_ | (refine k_g ?_; first | refine a_gy rfl rfl ?_ | refine a_gn rfl rfl ?_ | refine a_gu rfl ?_ | (refine a_gd rfl (fun hb => ?_) (fun hb => ?_) <;> try (exfalso; omega))))
        | refine a_n ?_
        | (refine k_V ?_; first | refine v_rv ?_ | refine v_seq ?_ | refine v_reg ?_ | refine v_skip ?_ | refine v_ct rfl ?_ | refine v_cf rfl ?_ | (refine v_cd rfl (fun hb => ?_) (fun hb => ?_) <;> try (exfalso; omega)))
        | refine s_n ?_
        | refine s_r ?_
        | refine r_rt ?_)
      all_goals first
        | exact q_F fun h4 => h4.roots i _ gc ‹_› ⟨hgc ▸ ‹Doomed x.H i›.2.1, .inl ‹_›⟩
        | exact q_F fun h4 => h4.roots i _ gc ‹_› ⟨hgc ▸ ‹Doomed x.H i›.2.1, .inr ‹_›⟩
        | exact j_i () (fun r1 r2 => absurd r1 ‹_›)
        | exact j_i () (fun r1 r2 => r2.2.elim ‹_› ‹_›)
    by_cases hD : Doomed x.H i
    · repeat' (first
        | (refine k_L ?_; refine a_p rfl ?_)
        | refine a_n ?_
        | (refine k_V ?_; first | refine v_seq ?_ | refine v_reg ?_)
        | refine s_n ?_)
      refine g_range y.c.pairs.length (fun _ : Unit => [(0, .v (ptr a)), (5, .v (.int .i64 i)), (7, .v (.bool (decide (Doomed x.H i)))), (28, .v (.slice x.cd.a x.xs.length x.cd.cap)), (29, .v (.int .i64 x.xs.length)), (30, .v (.int .i64 i)), (50, .v (.slice y.d.a y.c.pairs.length y.d.cap))]) (fun _ => [ro m]) (fun k _ => ∀ (j : Nat) p, j < k → y.c.pairs[j]? = some p → Formed x.H p.key ∧ Formed x.H p.val) () (fun j c hj => by omega) (fun k _ hk hv => ?_) (fun _ hw => ?_)
      · obtain ⟨p, gp⟩ : ∃ p, y.c.pairs[k]? = some p := ⟨_, List.getElem?_eq_getElem (by omega)⟩
        rw [decide_eq_true hD]
        repeat' (first
          | (refine k_L ?_; first | refine a_p rfl ?_ | (refine k_g ?_; first | refine a_gy rfl rfl ?_ | refine a_gn rfl rfl ?_ | (refine a_gnd rfl (fun hb => ?_) (fun hb => ?_) <;> try (exfalso; omega))) | (refine k_l ?_; refine g_l rfl ?_) | (refine k_i ?_; refine g_i rfl rfl ?_) | (refine k_ls ?_; refine g_ls rfl ?_) | (refine k_st ?_; refine g_sw rfl rfl rfl rfl (Nat.le_of_ble_eq_true rfl) ?_) | (refine k_al ?_; refine a_al ?_) | (refine k_q ?_; first | refine a_q rfl (fun m hm => l1formed_q (H := x.H) (w := p.key) hnc) ?_ | refine a_q rfl (fun m hm => l1formed_q (H := x.H) (w := p.val) hnc) ?_))
          | refine a_n ?_
          | (refine k_V ?_; first | refine v_rv ?_ | refine v_seq ?_ | refine v_reg ?_ | refine v_dreg ?_ | refine v_exit ?_ | refine v_skip ?_ | refine v_ct rfl ?_ | (refine v_cnd rfl (fun hb => ?_) (fun hb => ?_) <;> try (exfalso; omega)))
          | refine s_r ?_
          | refine s_e ?_
          | refine r_rt ?_
          | refine sk_zero ?_
          | refine sk_succ ?_
          | refine wk_nil ?_
          | refine wk_cons ?_)
        · exact q_F fun h4 => ‹¬ Formed x.H p.key› (h4.pairs i _ gc k p gp).1
        · exact q_F fun h4 => ‹¬ Formed x.H p.val› (h4.pairs i _ gc k p gp).2.1
        · refine r_ct () (fun j q hj hq => ?_)
          by_cases e : j = k
          · subst e; rw [gp] at hq; cases hq; exact ⟨‹_›, ‹_›⟩
          · exact hv j q (by omega) hq
      · repeat' (first
          | (refine k_L ?_; first | (refine k_ad ?_; refine g_ad rfl rfl ?_) | (refine k_su ?_; refine g_su rfl rfl ?_) | (refine k_ml ?_; refine g_ml rfl rfl ?_) | refine a_p rfl ?_ | (refine k_g ?_; first | refine a_gy rfl rfl ?_ | refine a_gn rfl rfl ?_ | refine a_gu rfl ?_ | (refine a_gd rfl (fun hb => ?_) (fun hb => ?_) <;> try (exfalso; omega)) | (refine a_ge rfl (fun hb => ?_) (fun hb => ?_) <;> try (exfalso; omega)) | (refine a_gne rfl (fun hb => ?_) (fun hb => ?_) <;> try (exfalso; omega)) | (refine a_gnd rfl (fun hb => ?_) (fun hb => ?_) <;> try (exfalso; omega))) | (refine k_l ?_; refine g_l rfl ?_) | (refine k_i ?_; refine g_i rfl rfl ?_) | (refine k_ls ?_; refine g_ls rfl ?_) | (refine k_st ?_; first | refine g_st rfl rfl rfl rfl ?_ | refine g_sw rfl rfl rfl rfl (Nat.le_of_ble_eq_true rfl) ?_) | (refine k_al ?_; refine a_al ?_) | (refine k_bx ?_; refine a_bx rfl rfl ?_) | (refine k_bl ?_; refine a_bl rfl ?_) | (refine k_p ?_; first | (refine a_pd rfl (fun hb => ?_) (fun hb => ?_) <;> try (exfalso; omega)) | (refine a_pe rfl (fun hb => ?_) (fun hb => ?_) <;> try (exfalso; omega)) | (refine a_pne rfl (fun hb => ?_) (fun hb => ?_) <;> try (exfalso; omega)) | (refine a_pnd rfl (fun hb => ?_) (fun hb => ?_) <;> try (exfalso; omega))))
          | refine a_n ?_
          | (refine k_V ?_; first | refine v_rv ?_ | refine v_seq ?_ | refine v_reg ?_ | refine v_dreg ?_ | refine v_zreg ?_ | refine v_bs ?_ | refine v_br ?_ | refine v_bd ?_ | refine v_bc ?_ | refine v_bk ?_ | refine v_bb ?_ | refine v_ret ?_ | refine v_exit ?_ | refine v_skip ?_ | refine v_ct rfl ?_ | refine v_cf rfl ?_ | (refine v_cd rfl (fun hb => ?_) (fun hb => ?_) <;> try (exfalso; omega)) | (refine v_ce rfl (fun hb => ?_) (fun hb => ?_) <;> try (exfalso; omega)) | (refine v_cn rfl (fun hb => ?_) (fun hb => ?_) <;> try (exfalso; omega)) | (refine v_cnd rfl (fun hb => ?_) (fun hb => ?_) <;> try (exfalso; omega)))
          | refine s_n ?_
          | refine s_r ?_
          | refine s_e ?_
          | refine b_n ?_
          | refine b_r ?_
          | refine b_e ?_
          | refine b_o rfl ?_
          | refine r_rt ?_
          | refine r_bk rfl ?_
          | refine r_ex rfl rfl ?_
          | refine sk_zero ?_
          | refine sk_succ ?_
          | refine wk_nil ?_
          | refine wk_cons ?_)
        refine r_nx () (fun j c hj hc => ?_)
        by_cases e : j = i
        · subst e; rw [gc] at hc; cases hc
          exact ⟨hdr, fun k p gp => ⟨(hw k p (List.getElem?_eq_some_iff.1 gp).1 gp).1, (hw k p (List.getElem?_eq_some_iff.1 gp).1 gp).2, fun hn => absurd hD hn⟩⟩
        · exact hv j c (by omega) hc
    · repeat' (first
        | (refine k_L ?_; refine a_p rfl ?_)
        | refine a_n ?_
        | (refine k_V ?_; first | refine v_seq ?_ | refine v_reg ?_)
        | refine s_n ?_)
      refine g_range y.c.pairs.length (fun _ : Unit => [(0, .v (ptr a)), (5, .v (.int .i64 i)), (7, .v (.bool (decide (Doomed x.H i)))), (28, .v (.slice x.cd.a x.xs.length x.cd.cap)), (29, .v (.int .i64 x.xs.length)), (30, .v (.int .i64 i)), (50, .v (.slice y.d.a y.c.pairs.length y.d.cap))]) (fun _ => [ro m]) (fun k _ => ∀ (j : Nat) p, j < k → y.c.pairs[j]? = some p → (Formed x.H p.key ∧ LeadsWell x.H p.key (¬ Mended x.H i j)) ∧ (Formed x.H p.val ∧ LeadsWell x.H p.val (¬ Mended x.H i j))) () (fun j c hj => by omega) (fun k _ hk hv => ?_) (fun _ hw => ?_)
      · obtain ⟨p, gp⟩ : ∃ p, y.c.pairs[k]? = some p := ⟨_, List.getElem?_eq_getElem (by omega)⟩
        rw [decide_eq_false hD]
        have lw := fun w => leadsWell_b (H := x.H) (w := w) (b := !decide (Mended x.H i k)) (p := ¬ Mended x.H i k) (by simp)
        repeat' (first
          | (refine k_L ?_; first | refine a_p rfl ?_ | (refine k_g ?_; first | refine a_gy rfl rfl ?_ | refine a_gn rfl rfl ?_ | (refine a_gnd rfl (fun hb => ?_) (fun hb => ?_) <;> try (exfalso; omega))) | (refine k_i ?_; refine g_i rfl rfl ?_) | (refine k_ls ?_; refine g_ls rfl ?_) | (refine k_st ?_; refine g_sw rfl rfl rfl rfl (Nat.le_of_ble_eq_true rfl) ?_) | (refine k_al ?_; refine a_al ?_) | (refine k_c ?_; first | refine a_cq rfl (fun m hm => l1mended_q (i := i) (k := k) (has_g h hm)) ?_ | refine a_cq rfl (fun m hm => l1leads_q (w := p.key) (has_g h hm)) ?_ | refine a_cq rfl (fun m hm => l1leads_q (w := p.val) (has_g h hm)) ?_))
          | refine a_n ?_
          | (refine k_V ?_; first | refine v_rv ?_ | refine v_seq ?_ | refine v_reg ?_ | refine v_skip ?_ | refine v_ct rfl ?_ | refine v_cf rfl ?_ | (refine v_cnd rfl (fun hb => ?_) (fun hb => ?_) <;> try (exfalso; omega)))
          | refine s_r ?_
          | refine r_rt ?_
          | refine sk_zero ?_
          | refine sk_succ ?_
          | refine wk_nil ?_
          | refine wk_cons ?_)
        · refine q_F fun h4 => ?_
          have h5 := h4.pairs i _ gc k p gp
          have hn : ¬ (Formed x.H p.key ∧ LeadsWell x.H p.key ((!decide (Mended x.H i k)) = true)) := ‹_›
          exact hn ⟨h5.1, (lw p.key).2 (h5.2.2 hD).1⟩
        · refine q_F fun h4 => ?_
          have h5 := h4.pairs i _ gc k p gp
          have hn : ¬ (Formed x.H p.val ∧ LeadsWell x.H p.val ((!decide (Mended x.H i k)) = true)) := ‹_›
          exact hn ⟨h5.2.1, (lw p.val).2 (h5.2.2 hD).2⟩
        · refine r_nx () (fun j q hj hq => ?_)
          by_cases e : j = k
          · subst e; rw [gp] at hq; cases hq
            have c1 : Formed x.H p.key ∧ LeadsWell x.H p.key ((!decide (Mended x.H i j)) = true) := ‹_›
            have c2 : Formed x.H p.val ∧ LeadsWell x.H p.val ((!decide (Mended x.H i j)) = true) := ‹_›
            exact ⟨⟨c1.1, (lw p.key).1 c1.2⟩, ⟨c2.1, (lw p.val).1 c2.2⟩⟩
          · exact hv j q (by omega) hq
      · repeat' (first
          | (refine k_L ?_; first | (refine k_ad ?_; refine g_ad rfl rfl ?_) | (refine k_su ?_; refine g_su rfl rfl ?_) | (refine k_ml ?_; refine g_ml rfl rfl ?_) | refine a_p rfl ?_ | (refine k_g ?_; first | refine a_gy rfl rfl ?_ | refine a_gn rfl rfl ?_ | refine a_gu rfl ?_ | (refine a_gd rfl (fun hb => ?_) (fun hb => ?_) <;> try (exfalso; omega)) | (refine a_ge rfl (fun hb => ?_) (fun hb => ?_) <;> try (exfalso; omega)) | (refine a_gne rfl (fun hb => ?_) (fun hb => ?_) <;> try (exfalso; omega)) | (refine a_gnd rfl (fun hb => ?_) (fun hb => ?_) <;> try (exfalso; omega))) | (refine k_l ?_; refine g_l rfl ?_) | (refine k_i ?_; refine g_i rfl rfl ?_) | (refine k_ls ?_; refine g_ls rfl ?_) | (refine k_st ?_; first | refine g_st rfl rfl rfl rfl ?_ | refine g_sw rfl rfl rfl rfl (Nat.le_of_ble_eq_true rfl) ?_) | (refine k_al ?_; refine a_al ?_) | (refine k_bx ?_; refine a_bx rfl rfl ?_) | (refine k_bl ?_; refine a_bl rfl ?_) | (refine k_p ?_; first | (refine a_pd rfl (fun hb => ?_) (fun hb => ?_) <;> try (exfalso; omega)) | (refine a_pe rfl (fun hb => ?_) (fun hb => ?_) <;> try (exfalso; omega)) | (refine a_pne rfl (fun hb => ?_) (fun hb => ?_) <;> try (exfalso; omega)) | (refine a_pnd rfl (fun hb => ?_) (fun hb => ?_) <;> try (exfalso; omega))))
          | refine a_n ?_
          | (refine k_V ?_; first | refine v_rv ?_ | refine v_seq ?_ | refine v_reg ?_ | refine v_dreg ?_ | refine v_zreg ?_ | refine v_bs ?_ | refine v_br ?_ | refine v_bd ?_ | refine v_bc ?_ | refine v_bk ?_ | refine v_bb ?_ | refine v_ret ?_ | refine v_exit ?_ | refine v_skip ?_ | refine v_ct rfl ?_ | refine v_cf rfl ?_ | (refine v_cd rfl (fun hb => ?_) (fun hb => ?_) <;> try (exfalso; omega)) | (refine v_ce rfl (fun hb => ?_) (fun hb => ?_) <;> try (exfalso; omega)) | (refine v_cn rfl (fun hb => ?_) (fun hb => ?_) <;> try (exfalso; omega)) | (refine v_cnd rfl (fun hb => ?_) (fun hb => ?_) <;> try (exfalso; omega)))
          | refine s_n ?_
          | refine s_r ?_
          | refine s_e ?_
          | refine b_n ?_
          | refine b_r ?_
          | refine b_e ?_
          | refine b_o rfl ?_
          | refine r_rt ?_
          | refine r_bk rfl ?_
          | refine r_ex rfl rfl ?_
          | refine sk_zero ?_
          | refine sk_succ ?_
          | refine wk_nil ?_
          | refine wk_cons ?_)
        refine r_nx () (fun j c hj hc => ?_)
        by_cases e : j = i
        · subst e; rw [gc] at hc; cases hc
          exact ⟨hdr, fun k p gp => let w := hw k p (List.getElem?_eq_some_iff.1 gp).1 gp; ⟨w.1.1, w.2.1, fun _ => ⟨w.1.2, w.2.2⟩⟩⟩
        · exact hv j c (by omega) hc
  · repeat' (first
      | refine a_n ?_
      | (refine k_V ?_; refine v_rv ?_))
    refine q_T ⟨fun w hw => ?_, fun i c hc => (hv i c (by have := (List.getElem?_eq_some_iff.1 hc).1; omega) hc).1, fun i c hc => (hv i c (by have := (List.getElem?_eq_some_iff.1 hc).1; omega) hc).2⟩
    obtain ⟨i, hi⟩ := List.getElem?_of_mem hw
    exact hr i w (List.getElem?_eq_some_iff.1 hi).1 hi
end Go.Proofs.Ytcmllambknfleaa.E
/- The reference's rules 5 and 6. Conditions: none. -/
set_option linter.unusedVariables false
set_option linter.unusedSimpArgs false
set_option maxHeartbeats 8000000
set_option maxRecDepth 100000
namespace Go.Proofs.Ytcmllambknfleaa.E
open Go
open Classical
/-- how often a place stands in Gray -/
def cnt (i : Int) : List Int → Nat
  | [] => 0
  | g :: r => (if g = i then 1 else 0) + cnt i r
theorem cnt_app (i : Int) : ∀ (l : List Int) (g : Int), cnt i (l ++ [g]) = cnt i l + (if g = i then 1 else 0)
  | [], g => by simp [cnt]
  | x :: r, g => by simp only [List.cons_append, cnt, cnt_app i r g]; omega
theorem cnt_zero {i : Int} : ∀ {l : List Int}, cnt i l = 0 ↔ i ∉ l
  | [] => by simp [cnt]
  | x :: r => by
    simp only [cnt, List.mem_cons, not_or]
    by_cases h : x = i
    · simp [h]
    · have := cnt_zero (i := i) (l := r)
      simp only [h, if_false, Nat.zero_add, this]
      exact ⟨fun hh => ⟨fun e => h e.symm, hh⟩, fun hh => hh.2⟩
theorem cnt_nodup : ∀ {l : List Int}, l.Nodup ↔ ∀ i, cnt i l ≤ 1
  | [] => by simp [cnt]
  | x :: r => by
    rw [List.nodup_cons, cnt_nodup (l := r)]
    simp only [cnt]
    constructor
    · rintro ⟨h1, h2⟩ i
      by_cases h : x = i
      · subst h
        have := cnt_zero.2 h1
        simp [this]
      · simp only [h, if_false]; have := h2 i; omega
    · intro h
      refine ⟨cnt_zero.1 ?_, fun i => ?_⟩
      · have := h x; simp only [if_true] at this; omega
      · have := h i; omega
def OK5 (H : Heap) (j : Nat) (c : Cell) : Prop := (c.color = 1 → cnt j H.gray = 1) ∧ (c.color ≠ 1 → cnt j H.gray = 0) ∧ (c.color = 2 → ¬ Marking H → H.phase = 3 ∧ H.hand ≤ j)
theorem col_iff {H : Heap} (h2 : R2 H) : R5 H ↔ ((¬ Marking H → H.gray = []) ∧ (∀ (j : Nat) c, H.cells[j]? = some c → OK5 H j c) ∧ ∀ g, g ∈ H.gray → 0 ≤ g ∧ g < H.cells.length) := by
  constructor
  · intro h
    refine ⟨fun hm => (h.else_ hm).1, fun j c hc => ?_, fun g hg => ?_⟩
    · have hgc : H.getC (j : Int) = c := by unfold Heap.getC; rw [List.getD_eq_getElem?_getD]; show (H.cells[j]?).getD _ = _; rw [hc]; rfl
      by_cases hm : Marking H
      · obtain ⟨m1, m2, m3⟩ := h.mark hm
        refine ⟨fun hk => ?_, fun hk => ?_, fun _ hn => absurd hm hn⟩
        · have a1 := cnt_nodup.1 m1 j
          have a2 : cnt j H.gray ≠ 0 := fun e => cnt_zero.1 e (m3 j c hc hk)
          omega
        · refine cnt_zero.2 fun hg => hk ?_
          have := (m2 _ hg).2.2.2
          rw [hgc] at this; exact this
      · obtain ⟨m1, m2⟩ := h.else_ hm
        rw [OK5, m1]
        exact ⟨fun hk => absurd hk (m2 j c hc).1, fun _ => rfl, fun hk _ => (m2 j c hc).2 hk⟩
    · by_cases hm : Marking H
      · exact ⟨((h.mark hm).2.1 g hg).1, ((h.mark hm).2.1 g hg).2.1⟩
      · rw [(h.else_ hm).1] at hg; cases hg
  · rintro ⟨g1, g2, g3⟩
    refine ⟨fun hm => ⟨cnt_nodup.2 fun i => ?_, fun g hg => ?_, fun i c hc hk => ?_⟩, fun hm => ⟨g1 hm, fun i c hc => ?_⟩⟩
    · by_cases hi : i ∈ H.gray
      · obtain ⟨i0, i1⟩ := g3 i hi
        obtain ⟨c, hc⟩ : ∃ c, H.cells[i.toNat]? = some c := ⟨_, List.getElem?_eq_getElem (by omega)⟩
        have h5 := g2 _ c hc
        unfold OK5 at h5
        rw [show ((i.toNat : Nat) : Int) = i by omega] at h5
        by_cases hk : c.color = 1
        · rw [h5.1 hk]; exact Nat.le_refl _
        · rw [h5.2.1 hk]; omega
      · rw [cnt_zero.2 hi]; omega
    · obtain ⟨i0, i1⟩ := g3 g hg
      obtain ⟨c, hc⟩ : ∃ c, H.cells[g.toNat]? = some c := ⟨_, List.getElem?_eq_getElem (by omega)⟩
      have hgc : H.getC g = c := by unfold Heap.getC; rw [List.getD_eq_getElem?_getD, hc]; rfl
      have h5 := g2 _ c hc
      have hk : c.color = 1 := by
        by_cases hk : c.color = 1
        · exact hk
        · have := h5.2.1 hk
          rw [show ((g.toNat : Nat) : Int) = g by omega] at this
          exact absurd hg (cnt_zero.1 this)
      refine ⟨i0, i1, ?_, by rw [hgc]; exact hk⟩
      rw [hgc]
      rcases h2.each _ c hc with h | h | h
      · have := h.2.1.2.2.2.2.1; omega
      · have := h.2.1.2.2.2.2.1; omega
      · exact h.1
    · have := (g2 i c hc).1 hk
      by_cases hi : (i : Int) ∈ H.gray
      · exact hi
      · rw [cnt_zero.2 hi] at this; omega
    · have h5 := g2 i c hc
      refine ⟨fun hk => ?_, fun hk => h5.2.2 hk hm⟩
      have := h5.1 hk
      rw [g1 hm] at this; simp [cnt] at this
theorem l1colors_q {m : Mem} {a : Nat} {x : HX} (h : Has m (hp a x)) (h2 : R2 x.H) : Qt Try.prog 88 [ptr a] m (.bool (decide (R5 x.H))) := by
  have hb := h.lens
  have hl := x.len
  have hnc : (x.hdr.nc : Int) = x.xs.length := rfl
  have hng : x.hdr.ng = x.gray.length := rfl
  refine qt_of (fnA_of (fun h => fn88 (by simp) h) ?_)
  refine v_seq ?_
  repeat' (first
    | (refine k_L ?_; refine a_p rfl ?_)
    | refine a_n ?_
    | (refine k_V ?_; refine v_reg ?_)
    | refine s_n ?_)
  refine g_cut (fun _ : Unit => [(0, .v (ptr a)), (3, .v (.bool (decide (Marking x.H))))]) (fun _ => [ro m]) (fun _ => True) ?_ (fun _ _ => ?_)
  · repeat' (first
      | (refine k_L ?_; first | refine a_p rfl ?_ | (refine k_g ?_; first | refine a_gy rfl rfl ?_ | refine a_gn rfl rfl ?_ | (refine a_gd rfl (fun hb => ?_) (fun hb => ?_) <;> try (exfalso; omega))) | (refine k_l ?_; refine g_l rfl ?_))
      | refine a_n ?_
      | (refine k_V ?_; refine v_reg ?_)
      | refine s_n ?_)
    all_goals refine j_i () trivial (hl := ⟨rfl, ?_, trivial⟩)
    all_goals (show SV.v (.bool _) = _; congr 1; refine bool_dec ?_; simp_all [Marking, HX.hdr, HX.H])
  refine g_cut (fun _ : Unit => [(0, .v (ptr a)), (3, .v (.bool (decide (Marking x.H))))]) (fun _ => [ro m]) (fun _ => ¬ Marking x.H → x.H.gray = []) ?_ (fun _ hg0 => ?_)
  · repeat' (first
      | (refine k_L ?_; first | refine a_p rfl ?_ | (refine k_g ?_; first | refine a_gy rfl rfl ?_ | refine a_gn rfl rfl ?_ | (refine a_gnd rfl (fun hb => ?_) (fun hb => ?_) <;> try (exfalso; omega))) | (refine k_l ?_; refine g_l rfl ?_))
      | refine a_n ?_
      | (refine k_V ?_; first | refine v_rv ?_ | refine v_seq ?_ | refine v_reg ?_ | refine v_skip ?_ | refine v_cf rfl ?_ | (refine v_cd rfl (fun hb => ?_) (fun hb => ?_) <;> try (exfalso; omega)))
      | refine s_n ?_
      | refine s_r ?_)
    · exact q_F fun h5 => by have := (h5.else_ ‹_›).1; have e : x.hdr.ng = x.H.gray.length := rfl; rw [this] at e; simp at e; omega
    all_goals refine j_i () (fun hm => ?_)
    · exact List.eq_nil_of_length_eq_zero (by show x.gray.length = 0; omega)
    · exact absurd ‹Marking x.H› hm
  repeat' (first
    | (refine k_L ?_; first | refine a_p rfl ?_ | (refine k_l ?_; refine g_l rfl ?_))
    | refine a_n ?_
    | (refine k_V ?_; first | refine v_seq ?_ | refine v_reg ?_)
    | refine s_n ?_)
  refine g_range x.xs.length (fun _ : Unit => [(0, .v (ptr a)), (3, .v (.bool (decide (Marking x.H)))), (36, .v (.slice x.cd.a x.xs.length x.cd.cap))]) (fun _ => [ro m]) (fun i _ => ∀ (j : Nat) c, j < i → x.H.cells[j]? = some c → OK5 x.H j c) () (fun j c hj => by omega) (fun i _ hi hv => ?_) (fun _ hv => ?_)
  · obtain ⟨y, gy, gc⟩ := HX.at hi
    have nx : OK5 x.H i y.c → ∀ (j : Nat) c, j < i + 1 → x.H.cells[j]? = some c → OK5 x.H j c := by
      intro hp j c hj hc
      by_cases e : j = i
      · subst e; rw [gc] at hc; cases hc; exact hp
      · exact hv j c (by omega) hc
    repeat' (first
      | (refine k_L ?_; first | refine a_p rfl ?_ | (refine k_l ?_; refine g_l rfl ?_) | (refine k_i ?_; refine g_i rfl rfl ?_) | (refine k_ls ?_; refine g_ls rfl ?_) | (refine k_st ?_; refine g_sw rfl rfl rfl rfl (Nat.le_of_ble_eq_true rfl) ?_) | (refine k_al ?_; refine a_al ?_))
      | refine a_n ?_
      | (refine k_V ?_; first | refine v_seq ?_ | refine v_reg ?_)
      | refine s_n ?_
      | refine sk_zero ?_
      | refine sk_succ ?_
      | refine wk_nil ?_
      | refine wk_cons ?_)
    refine g_range x.gray.length (fun n : Nat => [(0, .v (ptr a)), (3, .v (.bool (decide (Marking x.H)))), (4, .v (.int .i64 i)), (5, .box (csw y)), (6, .v (.int .i64 n)), (36, .v (.slice x.cd.a x.xs.length x.cd.cap)), (37, .v (.int .i64 x.xs.length)), (38, .v (.int .i64 i)), (46, .v (.slice x.gd.a x.gray.length x.gd.cap))]) (fun _ => [ro m]) (fun k n => n ≤ k ∧ n = cnt i (x.gray.take k)) 0 ⟨by omega, rfl⟩ (fun k n hk hw => ?_) (fun n hw => ?_)
    · obtain ⟨hnk, hw⟩ := hw
      obtain ⟨g, gg⟩ : ∃ g, x.gray[k]? = some g := ⟨_, List.getElem?_eq_getElem hk⟩
      have htk : x.gray.take (k + 1) = x.gray.take k ++ [g] := by rw [List.take_add_one, gg]; rfl
      repeat' (first
        | (refine k_L ?_; first | (refine k_ad ?_; refine g_ad rfl rfl ?_) | refine a_p rfl ?_ | (refine k_l ?_; refine g_l rfl ?_) | (refine k_i ?_; refine g_i rfl rfl ?_))
        | refine a_n ?_
        | (refine k_V ?_; first | refine v_seq ?_ | refine v_reg ?_ | refine v_skip ?_ | (refine v_cd rfl (fun hb => ?_) (fun hb => ?_) <;> try (exfalso; omega))))
      · exact r_nx (n + 1) ⟨by omega, by rw [htk, cnt_app, if_pos ‹_›, ← hw]⟩
      · exact r_nx n ⟨by omega, by rw [htk, cnt_app, if_neg ‹_›, ← hw]; rfl⟩
    · obtain ⟨_, hw⟩ := hw
      rw [List.take_length] at hw
      have hw' : n = cnt (i : Int) x.H.gray := hw
      have bad : ¬ OK5 x.H i y.c → ¬ R5 x.H := fun hn h5 => hn (((col_iff h2).1 h5).2.1 i _ gc)
      repeat' (first
        | (refine k_L ?_; first | refine a_p rfl ?_ | (refine k_g ?_; first | refine a_gy rfl rfl ?_ | refine a_gn rfl rfl ?_ | refine a_gu rfl ?_ | (refine a_gd rfl (fun hb => ?_) (fun hb => ?_) <;> try (exfalso; omega)) | (refine a_gne rfl (fun hb => ?_) (fun hb => ?_) <;> try (exfalso; omega)) | (refine a_gnd rfl (fun hb => ?_) (fun hb => ?_) <;> try (exfalso; omega))) | (refine k_l ?_; refine g_l rfl ?_))
        | refine a_n ?_
        | (refine k_V ?_; first | refine v_rv ?_ | refine v_seq ?_ | refine v_reg ?_ | refine v_skip ?_ | refine v_ct rfl ?_ | refine v_cf rfl ?_ | (refine v_cd rfl (fun hb => ?_) (fun hb => ?_) <;> try (exfalso; omega)))
        | refine s_r ?_
        | refine r_rt ?_)
      · exact q_F (bad fun h5 => by have := h5.1 ‹_›; omega)
      · exact r_nx () (nx ⟨fun _ => by omega, fun hk => absurd ‹y.c.color = 1› hk, fun hk => absurd hk ‹_›⟩)
      · exact q_F (bad fun h5 => by have := h5.2.1 ‹_›; omega)
      · exact q_F (bad fun h5 => absurd (h5.2.2 ‹_› ‹_›).1 ‹_›)
      · exact q_F (bad fun h5 => absurd (h5.2.2 ‹_› ‹_›).2 (by show ¬ x.hdr.hand ≤ _; omega))
      · exact r_nx () (nx ⟨fun hk => absurd hk ‹_›, fun hk => by omega, fun _ _ => ⟨‹_›, by show x.hdr.hand ≤ _; omega⟩⟩)
      · exact r_nx () (nx ⟨fun hk => absurd hk ‹_›, fun hk => by omega, fun _ hn => absurd ‹Marking x.H› hn⟩)
      · exact r_nx () (nx ⟨fun hk => absurd hk ‹_›, fun hk => by omega, fun hk => absurd hk ‹_›⟩)
  · repeat' (first
      | (refine k_L ?_; first | refine a_p rfl ?_ | (refine k_l ?_; refine g_l rfl ?_))
      | refine a_n ?_
      | (refine k_V ?_; first | refine v_seq ?_ | refine v_reg ?_)
      | refine s_n ?_)
    refine g_range x.gray.length (fun _ : Unit => [(0, .v (ptr a)), (100, .v (.slice x.gd.a x.gray.length x.gd.cap))]) (fun _ => [ro m]) (fun k _ => ∀ (j : Nat) g, j < k → x.gray[j]? = some g → 0 ≤ g ∧ g < x.H.cells.length) () (fun j c hj => by omega) (fun k _ hk hw => ?_) (fun _ hw => ?_)
    · obtain ⟨g, gg⟩ : ∃ g, x.gray[k]? = some g := ⟨_, List.getElem?_eq_getElem hk⟩
      have hgm := List.mem_of_getElem? gg
      repeat' (first
        | (refine k_L ?_; first | refine a_p rfl ?_ | (refine k_g ?_; first | refine a_gy rfl rfl ?_ | refine a_gn rfl rfl ?_ | (refine a_gd rfl (fun hb => ?_) (fun hb => ?_) <;> try (exfalso; omega))) | (refine k_l ?_; refine g_l rfl ?_) | (refine k_i ?_; refine g_i rfl rfl ?_))
        | refine a_n ?_
        | (refine k_V ?_; first | refine v_rv ?_ | refine v_seq ?_ | refine v_reg ?_ | refine v_skip ?_ | refine v_ct rfl ?_ | (refine v_cd rfl (fun hb => ?_) (fun hb => ?_) <;> try (exfalso; omega)))
        | refine s_r ?_
        | refine r_rt ?_)
      · exact q_F fun h5 => by have := (((col_iff h2).1 h5).2.2 g hgm).1; omega
      · exact q_F fun h5 => by have := (((col_iff h2).1 h5).2.2 g hgm).2; omega
      · refine r_nx () (fun j u hj hu => ?_)
        by_cases e : j = k
        · subst e; rw [gg] at hu; cases hu; omega
        · exact hw j u (by omega) hu
    · repeat' (first
        | refine a_n ?_
        | (refine k_V ?_; refine v_rv ?_))
      refine q_T ((col_iff h2).2 ⟨hg0, fun j c hc => hv j c (by have := (List.getElem?_eq_some_iff.1 hc).1; omega) hc, fun g hg => ?_⟩)
      obtain ⟨k, hk⟩ := List.getElem?_of_mem hg
      exact hw k g (List.getElem?_eq_some_iff.1 hk).1 hk
end Go.Proofs.Ytcmllambknfleaa.E
/- The reference's rules 1, 3, 6 and 8. Conditions: none. -/
set_option linter.unusedVariables false
set_option linter.unusedSimpArgs false
set_option maxHeartbeats 8000000
set_option maxRecDepth 100000
namespace Go.Proofs.Ytcmllambknfleaa.E
open Go
open Classical
theorem l1sizes_q {m : Mem} {a : Nat} {x : HX} (h : Has m (hp a x)) : Qt Try.prog 84 [ptr a] m (.bool (decide (R1 x.H))) := by
  have hb := h.lens
  refine qt_of (fnA_of (fun h => fn84 (by simp) h) ?_)
  repeat' (first
    | (refine k_L ?_; first | (refine k_ml ?_; refine g_ml rfl rfl ?_) | refine a_p rfl ?_ | (refine k_g ?_; first | refine a_gy rfl rfl ?_ | refine a_gn rfl rfl ?_ | (refine a_gd rfl (fun hb => ?_) (fun hb => ?_) <;> try (exfalso; omega)) | (refine a_gne rfl (fun hb => ?_) (fun hb => ?_) <;> try (exfalso; omega)) | (refine a_gnd rfl (fun hb => ?_) (fun hb => ?_) <;> try (exfalso; omega))) | (refine k_l ?_; refine g_l rfl ?_) | (refine k_q ?_; refine a_q rfl (fun m hm => spec.l1inQ) ?_) | (refine k_c ?_; refine a_cq rfl (fun m hm => spec.l1inQ) ?_))
    | refine a_n ?_
    | (refine k_V ?_; first | refine v_rv ?_ | refine v_seq ?_ | refine v_reg ?_ | refine v_dreg ?_ | refine v_ret ?_ | refine v_skip ?_ | refine v_ct rfl ?_ | (refine v_cd rfl (fun hb => ?_) (fun hb => ?_) <;> try (exfalso; omega)) | (refine v_cnd rfl (fun hb => ?_) (fun hb => ?_) <;> try (exfalso; omega)))
    | refine s_r ?_)
  all_goals refine q_B (fun _ _ => rfl) ?_
  all_goals (rw [R1_iff]; (try simp only [decide_eq_true_eq]); simp only [HX.hdr, Hdr.s_room, Hdr.s_used, Hdr.s_born, Hdr.s_phase, Hdr.s_hand, Hdr.s_sub, Hdr.s_per, Hdr.s_start, Hdr.s_rounds, Hdr.s_forced, Hdr.s_rd, Hdr.s_cd, Hdr.s_gd, HX.H, List.length_map] at *)
  all_goals simp_all
  all_goals omega
theorem l1units_q {m : Mem} {a : Nat} {x : HX} (h : Has m (hp a x)) (h1 : R1 x.H) (h2 : R2 x.H) : Qt Try.prog 86 [ptr a] m (.int .i64 (unitsN x.H.cells)) := by
  have hc := h1.cells
  have hr := h1.room
  have hl := x.len
  have hu := unitsN_le (cs := x.H.cells) (fun c => h2.pl)
  refine qt_of (fnA_of (fun h => fn86 (by simp) h) ?_)
  repeat' (first
    | (refine k_L ?_; first | refine a_p rfl ?_ | (refine k_l ?_; refine g_l rfl ?_))
    | refine a_n ?_
    | (refine k_V ?_; first | refine v_seq ?_ | refine v_reg ?_)
    | refine s_n ?_)
  refine g_range x.xs.length (fun n : Int => [(3, .v (.int .i64 n)), (9, .v (.slice x.cd.a x.xs.length x.cd.cap))]) (fun _ => [ro m]) (fun i n => n = unitsN (x.H.cells.take i)) 0 rfl (fun i n hi hn => ?_) (fun n hn => ?_)
  · obtain ⟨y, gy, gc⟩ := HX.at hi
    have hu1 := hu i
    have hu2 := hu (i + 1)
    have hu3 := unitsN_nn (x.H.cells.take i)
    have ht := unitsN_take gc
    have hp := h2.pl (List.mem_of_getElem? gc)
    unfold Cell.units at ht
    repeat' (first
      | (refine k_L ?_; first | (refine k_ad ?_; refine g_ad rfl rfl ?_) | refine a_p rfl ?_ | (refine k_i ?_; refine g_i rfl rfl ?_) | (refine k_ls ?_; refine g_ls rfl ?_) | (refine k_st ?_; refine g_sw rfl rfl rfl rfl (Nat.le_of_ble_eq_true rfl) ?_) | (refine k_al ?_; refine a_al ?_))
      | refine a_n ?_
      | (refine k_V ?_; first | refine v_seq ?_ | refine v_reg ?_ | refine v_skip ?_ | (refine v_cd rfl (fun hb => ?_) (fun hb => ?_) <;> try (exfalso; omega)))
      | refine sk_zero ?_
      | refine sk_succ ?_
      | refine wk_nil ?_
      | refine wk_cons ?_)
    · exact r_nx (n + (1 + y.c.pairs.length)) (by rw [ht, hn, if_pos ‹_›])
    · exact r_nx n (by rw [ht, hn, if_neg ‹_›]; omega)
  · rw [List.take_of_length_le (by omega)] at hn
    subst hn
    repeat' (first
      | (refine k_L ?_; refine a_p rfl ?_)
      | refine a_n ?_
      | (refine k_V ?_; first | refine v_seq ?_ | refine v_reg ?_ | refine v_ret ?_))
    exact fa_q (by simp) (fun _ _ => rfl) rfl
theorem l1closing_q {m : Mem} {a : Nat} {x : HX} (h : Has m (hp a x)) : Qt Try.prog 91 [ptr a] m (.bool (decide (R8 x.H))) := by
  have hb := h.lens
  have hl := x.len
  refine qt_of (fnA_of (fun h => fn91 (by simp) h) ?_)
  repeat' (first
    | (refine k_L ?_; first | refine a_p rfl ?_ | (refine k_l ?_; refine g_l rfl ?_))
    | refine a_n ?_
    | (refine k_V ?_; first | refine v_seq ?_ | refine v_reg ?_)
    | refine s_n ?_)
  refine g_range x.xs.length (fun _ : Unit => [(0, .v (ptr a)), (8, .v (.slice x.cd.a x.xs.length x.cd.cap))]) (fun _ => [ro m]) (fun i _ => ∀ (j : Nat) c, j < i → x.H.cells[j]? = some c → x.H.phase = 6 → x.H.hand ≤ j → c.state ≠ 2) () (fun j c hj => by omega) (fun i _ hi hv => ?_) (fun _ hv => ?_)
  · obtain ⟨y, gy, gc⟩ := HX.at hi
    have nx : (x.H.phase = 6 → x.H.hand ≤ i → y.c.state ≠ 2) → ∀ (j : Nat) c, j < i + 1 → x.H.cells[j]? = some c → x.H.phase = 6 → x.H.hand ≤ j → c.state ≠ 2 := by
      intro hp j c hj hc
      by_cases e : j = i
      · subst e; rw [gc] at hc; cases hc; exact hp
      · exact hv j c (by omega) hc
    repeat' (first
      | (refine k_L ?_; first | refine a_p rfl ?_ | (refine k_g ?_; first | refine a_gy rfl rfl ?_ | refine a_gn rfl rfl ?_ | (refine a_gd rfl (fun hb => ?_) (fun hb => ?_) <;> try (exfalso; omega))) | (refine k_l ?_; refine g_l rfl ?_) | (refine k_i ?_; refine g_i rfl rfl ?_) | (refine k_ls ?_; refine g_ls rfl ?_) | (refine k_st ?_; refine g_sw rfl rfl rfl rfl (Nat.le_of_ble_eq_true rfl) ?_) | (refine k_al ?_; refine a_al ?_))
      | refine a_n ?_
      | (refine k_V ?_; first | refine v_rv ?_ | refine v_seq ?_ | refine v_reg ?_ | refine v_skip ?_ | refine v_cf rfl ?_ | (refine v_cd rfl (fun hb => ?_) (fun hb => ?_) <;> try (exfalso; omega)))
      | refine s_r ?_
      | refine r_rt ?_
      | refine sk_zero ?_
      | refine sk_succ ?_
      | refine wk_nil ?_
      | refine wk_cons ?_)
    · exact q_F fun h8 => absurd ‹y.c.state = 2› (h8 ‹_› i _ gc (by show x.hdr.hand ≤ _; omega))
    all_goals refine r_nx () (nx fun p1 p2 => ?_)
    all_goals first | exact absurd p1 ‹_› | assumption | (exfalso; have p3 : x.hdr.hand ≤ (i : Int) := p2; omega)
  · repeat' (first
      | refine a_n ?_
      | (refine k_V ?_; refine v_rv ?_))
    exact q_T fun h6 i c hc hh => hv i c (by have := (List.getElem?_eq_some_iff.1 hc).1; omega) hc h6 hh
end Go.Proofs.Ytcmllambknfleaa.E
/- The reference's rules 6 and 7. Conditions: none. -/
set_option linter.unusedVariables false
set_option linter.unusedSimpArgs false
set_option maxHeartbeats 8000000
set_option maxRecDepth 100000
namespace Go.Proofs.Ytcmllambknfleaa.E
open Go
open Classical
theorem l1hands_q {m : Mem} {a : Nat} {x : HX} (h : Has m (hp a x)) (h1 : R1 x.H) (h5 : R5 x.H) : Qt Try.prog 89 [ptr a] m (.bool (decide (R6 x.H))) := by
  have hb := h.lens
  have hh := h1.hand
  have hl := x.len
  have hnc : (x.hdr.nc : Int) = x.xs.length := rfl
  refine qt_of (fnA_of (fun h => fn89 (by simp) h) ?_)
  by_cases hp2 : x.phase = 2
  · have hm := (h5.mark (.inr hp2)).2.1
    have hp2' : x.hdr.phase = 2 := hp2
    cases hg : x.gray with
    | nil =>
      have hgl : (x.hdr.ng : Int) = 0 := by simp [HX.hdr, hg]
      have hg' : x.H.gray = [] := hg
      repeat' (first
        | (refine k_L ?_; first | refine a_p rfl ?_ | (refine k_l ?_; refine g_l rfl ?_))
        | refine a_n ?_
        | (refine k_V ?_; first | refine v_rv ?_ | refine v_seq ?_ | refine v_reg ?_ | refine v_bs ?_ | refine v_ret ?_ | refine v_skip ?_ | (refine v_cd rfl (fun hb => ?_) (fun hb => ?_) <;> try (exfalso; omega)) | (refine v_cn rfl (fun hb => ?_) (fun hb => ?_) <;> try (exfalso; omega)))
        | refine s_r ?_
        | refine b_r ?_)
      all_goals refine q_B (fun _ _ => rfl) ?_
      all_goals simp_all [R6, HX.hdr, Hdr.s_room, Hdr.s_used, Hdr.s_born, Hdr.s_phase, Hdr.s_hand, Hdr.s_sub, Hdr.s_per, Hdr.s_start, Hdr.s_rounds, Hdr.s_forced, Hdr.s_rd, Hdr.s_cd, Hdr.s_gd, HX.H]
    | cons g r =>
      have hgl1 : (x.hdr.ng : Int) = r.length + 1 := by simp [HX.hdr, hg]
      have hg' : x.H.gray = g :: r := hg
      obtain ⟨g0, g1, _⟩ := hm g (by rw [hg']; simp)
      obtain ⟨y, gy, gc⟩ := HX.atI (x := x) g0 (by omega)
      have g00 : x.gray[(0 : Int).toNat]? = some g := by rw [hg]; rfl
      repeat' (first
        | (refine k_L ?_; first | refine a_p rfl ?_ | (refine k_l ?_; refine g_l rfl ?_) | (refine k_i ?_; refine g_i rfl rfl ?_))
        | refine a_n ?_
        | (refine k_V ?_; first | refine v_rv ?_ | refine v_seq ?_ | refine v_reg ?_ | refine v_dreg ?_ | refine v_bs ?_ | refine v_ret ?_ | refine v_skip ?_ | (refine v_cd rfl (fun hb => ?_) (fun hb => ?_) <;> try (exfalso; omega)) | (refine v_cn rfl (fun hb => ?_) (fun hb => ?_) <;> try (exfalso; omega)))
        | refine s_r ?_
        | refine b_r ?_)
      all_goals refine q_B (fun _ _ => rfl) ?_
      all_goals simp_all [R6, HX.hdr, Hdr.s_room, Hdr.s_used, Hdr.s_born, Hdr.s_phase, Hdr.s_hand, Hdr.s_sub, Hdr.s_per, Hdr.s_start, Hdr.s_rounds, Hdr.s_forced, Hdr.s_rd, Hdr.s_cd, Hdr.s_gd]
      all_goals simp_all [HX.H]
  · have hp2' : ¬ x.hdr.phase = 2 := hp2
    have hh' : 0 ≤ x.hdr.hand ∧ x.hdr.hand ≤ x.hdr.nc := by rw [hl] at hh; exact hh
    by_cases hh5 : x.hand < x.xs.length
    · obtain ⟨y, gy, gc⟩ := HX.atI (x := x) hh.1 hh5
      have hh5' : x.hdr.hand < x.hdr.nc := hh5
      have gc' : x.H.getC x.hand = y.c := gc
      repeat' (first
        | (refine k_L ?_; first | refine a_p rfl ?_ | (refine k_g ?_; first | refine a_gy rfl rfl ?_ | refine a_gn rfl rfl ?_ | (refine a_gd rfl (fun hb => ?_) (fun hb => ?_) <;> try (exfalso; omega))) | (refine k_l ?_; refine g_l rfl ?_) | (refine k_i ?_; refine g_i rfl rfl ?_) | (refine k_q ?_; refine a_q rfl (fun m hm => l1used_q (i := x.hand) (has_g h hm) hh.1 (by rw [hl]; exact hh5)) ?_))
        | refine a_n ?_
        | (refine k_V ?_; first | refine v_seq ?_ | refine v_reg ?_ | refine v_dreg ?_ | refine v_bs ?_ | refine v_ret ?_ | refine v_skip ?_ | (refine v_cd rfl (fun hb => ?_) (fun hb => ?_) <;> try (exfalso; omega)) | (refine v_cn rfl (fun hb => ?_) (fun hb => ?_) <;> try (exfalso; omega)))
        | refine s_r ?_
        | refine b_r ?_)
      all_goals refine q_B (fun _ _ => rfl) ?_
      all_goals (try simp only [decide_eq_true_eq])
      all_goals simp only [HX.hdr, Hdr.s_room, Hdr.s_used, Hdr.s_born, Hdr.s_phase, Hdr.s_hand, Hdr.s_sub, Hdr.s_per, Hdr.s_start, Hdr.s_rounds, Hdr.s_forced, Hdr.s_rd, Hdr.s_cd, Hdr.s_gd] at *
      all_goals unfold R6
      all_goals simp_all
      all_goals simp_all [HX.H]
    · have hh5' : ¬ (x.hdr.hand < x.hdr.nc) := hh5
      repeat' (first
        | (refine k_L ?_; first | refine a_p rfl ?_ | (refine k_g ?_; first | refine a_gy rfl rfl ?_ | refine a_gn rfl rfl ?_ | (refine a_gd rfl (fun hb => ?_) (fun hb => ?_) <;> try (exfalso; omega))) | (refine k_l ?_; refine g_l rfl ?_))
        | refine a_n ?_
        | (refine k_V ?_; first | refine v_seq ?_ | refine v_reg ?_ | refine v_dreg ?_ | refine v_bs ?_ | refine v_ret ?_ | refine v_skip ?_ | refine v_ct rfl ?_ | (refine v_cd rfl (fun hb => ?_) (fun hb => ?_) <;> try (exfalso; omega)))
        | refine s_r ?_
        | refine b_r ?_)
      all_goals refine q_B (fun _ _ => rfl) ?_
      all_goals (try simp only [decide_eq_true_eq])
      all_goals simp only [HX.hdr, Hdr.s_room, Hdr.s_used, Hdr.s_born, Hdr.s_phase, Hdr.s_hand, Hdr.s_sub, Hdr.s_per, Hdr.s_start, Hdr.s_rounds, Hdr.s_forced, Hdr.s_rd, Hdr.s_cd, Hdr.s_gd] at *
      all_goals unfold R6
      all_goals simp_all
      all_goals simp_all [HX.H]
theorem bool_d {p : Prop} {_ : Decidable p} {b : Bool} (h : b = true ↔ p) : Value.bool b = .bool (decide p) := by congr 1; rw [Bool.eq_iff_iff, h]; simp
theorem scanned_le {H : Heap} (h1 : R1 H) (h6 : R6 H) {i : Nat} {c : Cell} (hc : H.cells[i]? = some c) : 0 ≤ scanned H i c ∧ scanned H i c ≤ c.pairs.length := by
  unfold scanned
  split
  · omega
  · split
    · rename_i hg
      unfold R6 at h6
      rw [if_neg (by rw [hg.1]; decide), if_pos hg.1] at h6
      cases hgr : H.gray with
      | nil => rw [hgr] at hg; simp at hg
      | cons g r =>
        rw [hgr] at hg h6
        have hgi : g = (i : Int) := by simpa using hg.2
        have h3 := h6.2
        simp only [hgi] at h3
        have hgc : H.getC (i : Int) = c := by unfold Heap.getC; rw [List.getD_eq_getElem?_getD]; show (H.cells[i]?).getD _ = _; rw [hc]; rfl
        rw [hgc] at h3
        exact ⟨h1.sub.1, h3⟩
    · omega
theorem l1marks_q {m : Mem} {a : Nat} {x : HX} (h : Has m (hp a x)) (h1 : R1 x.H) (h2 : R2 x.H) (h4 : R4 x.H) (h6 : R6 x.H) : Qt Try.prog 90 [ptr a] m (.bool (decide (R7 x.H))) := by
  have hb := h.lens
  have hl := x.len
  have hnc : (x.hdr.nc : Int) = x.xs.length := rfl
  refine qt_of (fnA_of (fun h => fn90 (by simp) h) ?_)
  refine v_seq ?_
  repeat' (first
    | (refine k_L ?_; refine a_p rfl ?_)
    | refine a_n ?_
    | (refine k_V ?_; refine v_reg ?_)
    | refine s_n ?_)
  refine g_cut (fun _ : Unit => [(0, .v (ptr a))]) (fun _ => [ro m]) (fun _ => Marking x.H) ?_ (fun _ hmk => ?_)
  · repeat' (first
      | (refine k_L ?_; first | refine a_p rfl ?_ | (refine k_g ?_; first | refine a_gy rfl rfl ?_ | refine a_gn rfl rfl ?_ | (refine a_gne rfl (fun hb => ?_) (fun hb => ?_) <;> try (exfalso; omega))) | (refine k_l ?_; refine g_l rfl ?_))
      | refine a_n ?_
      | (refine k_V ?_; first | refine v_rv ?_ | refine v_seq ?_ | refine v_reg ?_ | refine v_skip ?_ | refine v_cf rfl ?_ | (refine v_cn rfl (fun hb => ?_) (fun hb => ?_) <;> try (exfalso; omega)))
      | refine s_n ?_
      | refine s_r ?_)
    · exact q_T fun hk => by rcases hk with hk | hk <;> contradiction
    · exact j_i () (.inr ‹_›)
    · exact j_i () (.inl ‹_›)
  have g0 : (∃ g, x.gray[(0 : Int).toNat]? = some g ∧ x.H.gray.head? = some g) ∨ (x.hdr.ng : Int) = 0 ∧ x.H.gray.head? = none := by
    show (∃ g, x.gray[(0 : Int).toNat]? = some g ∧ x.gray.head? = some g) ∨ (x.gray.length : Int) = 0 ∧ x.gray.head? = none
    cases x.gray with
    | nil => exact .inr ⟨rfl, rfl⟩
    | cons g r => exact .inl ⟨g, rfl, rfl⟩
  have hng : x.hdr.ng = x.gray.length := rfl
  repeat' (first
    | (refine k_L ?_; first | refine a_p rfl ?_ | (refine k_l ?_; refine g_l rfl ?_))
    | refine a_n ?_
    | (refine k_V ?_; first | refine v_seq ?_ | refine v_reg ?_)
    | refine s_n ?_)
  refine g_range x.xs.length (fun _ : Unit => [(0, .v (ptr a)), (23, .v (.slice x.cd.a x.xs.length x.cd.cap))]) (fun _ => [ro m]) (fun i _ => ∀ (j : Nat) c, j < i → x.H.cells[j]? = some c → OK7 x.H j c) () (fun j c hj => by omega) (fun i _ hi hv => ?_) (fun _ hv => ?_)
  · obtain ⟨y, gy, gc⟩ := HX.at hi
    have hbp : y.c.pairs.length ≤ 140737488355328 := by obtain ⟨b, l, s⟩ := h; exact (kn_t (kn_t (kn_h (kb_cp gy))) : Kn (hp a x) _).out b s
    have hsc : (if y.c.color = 2 then (y.c.pairs.length : Int) else if x.hdr.phase = 2 ∧ x.H.gray.head? = some (i : Int) then x.hdr.sub else 0) = scanned x.H i y.c := rfl
    have hroot : (y.c.last = 1 ∨ y.c.last = 2) → Root y.c := fun hl => ⟨by
      rcases h2.each i _ gc with h | h | h
      · have := h.2.1.2.2.1; omega
      · have := h.2.1.2.2.1; omega
      · exact h.1, hl⟩
    refine v_seq ?_
    repeat' (first
      | (refine k_L ?_; first | refine a_p rfl ?_ | (refine k_i ?_; refine g_i rfl rfl ?_) | (refine k_ls ?_; refine g_ls rfl ?_) | (refine k_st ?_; refine g_sw rfl rfl rfl rfl (Nat.le_of_ble_eq_true rfl) ?_) | (refine k_al ?_; refine a_al ?_))
      | refine a_n ?_
      | (refine k_V ?_; refine v_reg ?_)
      | refine s_n ?_
      | refine sk_zero ?_
      | refine sk_succ ?_
      | refine wk_nil ?_
      | refine wk_cons ?_)
    refine g_cut (fun _ : Unit => [(0, .v (ptr a)), (3, .v (.int .i64 i)), (4, .box (csw y)), (5, .v (.bool (decide (y.c.last = 1 ∨ y.c.last = 2)))), (23, .v (.slice x.cd.a x.xs.length x.cd.cap)), (24, .v (.int .i64 x.xs.length)), (25, .v (.int .i64 i))]) (fun _ => [ro m]) (fun _ => True) ?_ (fun _ _ => ?_)
    · repeat' (first
        | (refine k_L ?_; first | refine a_p rfl ?_ | (refine k_g ?_; first | refine a_gy rfl rfl ?_ | refine a_gn rfl rfl ?_ | (refine a_gd rfl (fun hb => ?_) (fun hb => ?_) <;> try (exfalso; omega))))
        | refine a_n ?_
        | (refine k_V ?_; refine v_reg ?_)
        | refine s_n ?_)
      all_goals refine j_i () trivial (hl := ⟨rfl, rfl, rfl, ?_, rfl, rfl, rfl, trivial⟩)
      all_goals (show SV.v (.bool _) = _; congr 1; refine bool_d ?_; simp_all)
    refine g_cut (fun _ : Unit => [(0, .v (ptr a)), (3, .v (.int .i64 i)), (4, .box (csw y)), (23, .v (.slice x.cd.a x.xs.length x.cd.cap)), (24, .v (.int .i64 x.xs.length)), (25, .v (.int .i64 i))]) (fun _ => [ro m]) (fun _ => Root y.c → y.c.color = 0 → x.hdr.phase ≠ 2 ∧ x.hdr.hand ≤ i) ?_ (fun _ hr => ?_)
    · repeat' (first
        | (refine k_L ?_; first | refine a_p rfl ?_ | (refine k_g ?_; first | refine a_gy rfl rfl ?_ | refine a_gn rfl rfl ?_ | refine a_gu rfl ?_ | (refine a_gd rfl (fun hb => ?_) (fun hb => ?_) <;> try (exfalso; omega))) | (refine k_l ?_; refine g_l rfl ?_))
        | refine a_n ?_
        | (refine k_V ?_; first | refine v_rv ?_ | refine v_seq ?_ | refine v_reg ?_ | refine v_skip ?_ | refine v_ct rfl ?_ | refine v_cf rfl ?_ | (refine v_cd rfl (fun hb => ?_) (fun hb => ?_) <;> try (exfalso; omega)))
        | refine s_n ?_
        | refine s_r ?_
        | refine r_rt ?_)
      · exact q_F fun h7 => absurd ‹x.hdr.phase = 2› ((h7 ‹_› i _ gc).1 (hroot ‹_›) ‹_›).1
      · exact q_F fun h7 => absurd ((h7 ‹_› i _ gc).1 (hroot ‹_›) ‹_›).2 (by show ¬ x.hdr.hand ≤ _; omega)
      all_goals refine j_i () (fun r1 r2 => ?_)
      · exact ⟨‹_›, by omega⟩
      all_goals first | exact absurd r1.2 ‹_› | exact absurd r2 ‹_›
    refine v_seq ?_
    repeat' (first
      | (refine k_L ?_; refine a_p rfl ?_)
      | refine a_n ?_
      | (refine k_V ?_; refine v_reg ?_)
      | refine s_n ?_)
    refine g_cut (fun n : Int => [(0, .v (ptr a)), (4, .box (csw y)), (6, .v (.int .i64 n)), (23, .v (.slice x.cd.a x.xs.length x.cd.cap)), (24, .v (.int .i64 x.xs.length)), (25, .v (.int .i64 i))]) (fun _ => [ro m]) (fun n => n = scanned x.H i y.c) ?_ (fun n hn => ?_)
    · rw [← hsc]
      rcases g0 with ⟨g, g0, g1⟩ | ⟨g0, g1⟩
      · have hlg := (List.getElem?_eq_some_iff.1 g0).1
        have hlg2 : (0 : Int) < x.hdr.ng := by rw [hng]; have : (0 : Int).toNat = 0 := rfl; omega
        repeat' (first
          | (refine k_L ?_; first | refine a_p rfl ?_ | (refine k_g ?_; first | refine a_gy rfl rfl ?_ | refine a_gn rfl rfl ?_ | (refine a_gd rfl (fun hb => ?_) (fun hb => ?_) <;> try (exfalso; omega))) | (refine k_l ?_; refine g_l rfl ?_) | (refine k_i ?_; refine g_i rfl rfl ?_))
          | refine a_n ?_
          | (refine k_V ?_; first | refine v_seq ?_ | refine v_reg ?_ | refine v_skip ?_ | refine v_cf rfl ?_ | (refine v_cd rfl (fun hb => ?_) (fun hb => ?_) <;> try (exfalso; omega)))
          | refine s_n ?_)
        all_goals refine j_i _ ?_
        all_goals simp_all
      · repeat' (first
          | (refine k_L ?_; first | refine a_p rfl ?_ | (refine k_g ?_; first | refine a_gy rfl rfl ?_ | refine a_gn rfl rfl ?_ | (refine a_gd rfl (fun hb => ?_) (fun hb => ?_) <;> try (exfalso; omega))) | (refine k_l ?_; refine g_l rfl ?_))
          | refine a_n ?_
          | (refine k_V ?_; first | refine v_seq ?_ | refine v_reg ?_ | refine v_skip ?_ | refine v_cf rfl ?_ | (refine v_cd rfl (fun hb => ?_) (fun hb => ?_) <;> try (exfalso; omega)))
          | refine s_n ?_)
        all_goals refine j_i _ ?_
        all_goals simp_all
    have hn0 : 0 ≤ n ∧ n ≤ y.c.pairs.length := by rw [hn]; exact scanned_le h1 h6 gc
    refine v_seq ?_
    repeat' (first
      | (refine k_L ?_; refine a_p rfl ?_)
      | refine a_n ?_
      | (refine k_V ?_; refine v_reg ?_)
      | refine s_n ?_)
    refine v_blk ?_
    refine v_loop (fun k : Nat => [(0, .v (ptr a)), (4, .box (csw y)), (6, .v (.int .i64 n)), (7, .v (.int .i64 k)), (23, .v (.slice x.cd.a x.xs.length x.cd.cap)), (24, .v (.int .i64 x.xs.length)), (25, .v (.int .i64 i))]) (fun _ => [ro m])
      (fun f k => f = n.toNat - k ∧ (k : Int) ≤ n ∧ ∀ (j : Nat) p, j < k → y.c.pairs[j]? = some p → ¬ White x.H p.key ∧ ¬ White x.H p.val) ⟨_, 0, ⟨rfl, rfl, rfl, rfl, rfl, rfl, rfl, trivial⟩, Ent.refl _, rfl, by omega, fun j c hj => by omega⟩ ?_
    rintro f k ⟨rfl, hk, hw⟩
    by_cases hkt : (k : Int) < n
    · obtain ⟨p, gp⟩ : ∃ p, y.c.pairs[k]? = some p := ⟨_, List.getElem?_eq_getElem (by omega)⟩
      obtain ⟨f1, f2, _⟩ := h4.pairs i _ gc k p gp
      repeat' (first
        | (refine k_L ?_; first | (refine k_ad ?_; refine g_ad rfl rfl ?_) | refine a_p rfl ?_ | (refine k_g ?_; first | refine a_gy rfl rfl ?_ | refine a_gn rfl rfl ?_ | (refine a_gd rfl (fun hb => ?_) (fun hb => ?_) <;> try (exfalso; omega))) | (refine k_i ?_; refine g_i rfl rfl ?_) | (refine k_ls ?_; refine g_ls rfl ?_) | (refine k_c ?_; first | refine a_cq rfl (fun m hm => l1white_q (w := p.key) (has_g h hm) f1) ?_ | refine a_cq rfl (fun m hm => l1white_q (w := p.val) (has_g h hm) f2) ?_))
        | refine a_n ?_
        | (refine k_V ?_; first | refine v_rv ?_ | refine v_seq ?_ | refine v_reg ?_ | refine v_bs ?_ | refine v_skip ?_ | refine v_ct rfl ?_ | (refine v_cd rfl (fun hb => ?_) (fun hb => ?_) <;> try (exfalso; omega)))
        | refine s_n ?_
        | refine s_r ?_
        | refine b_r ?_
        | refine r_rt ?_)
      · exact q_F fun h7 => ((h7 hmk i _ gc).2 k p gp (by rw [← hn]; omega)).1 ‹_›
      · exact q_F fun h7 => ((h7 hmk i _ gc).2 k p gp (by rw [← hn]; omega)).2 ‹_›
      · refine ⟨_, k + 1, ?_, ⟨rfl, rfl, rfl, rfl, rfl, rfl, rfl, trivial⟩, Ent.refl _, rfl, by omega, fun j q hj hq => ?_⟩
        · omega
        · by_cases e : j = k
          · subst e; rw [gp] at hq; cases hq; exact ⟨‹_›, ‹_›⟩
          · exact hw j q (by omega) hq
    · repeat' (first
        | (refine k_L ?_; refine a_p rfl ?_)
        | refine a_n ?_
        | (refine k_V ?_; first | refine v_seq ?_ | refine v_reg ?_ | refine v_exit ?_ | (refine v_cd rfl (fun hb => ?_) (fun hb => ?_) <;> try (exfalso; omega)))
        | refine s_e ?_
        | refine b_e ?_)
      refine r_nx () (fun j c hj hc => ?_)
      by_cases e : j = i
      · subst e; rw [gc] at hc; cases hc
        exact ⟨hr, fun k' p gp hk' => hw k' p (by rw [← hn] at hk'; omega) gp⟩
      · exact hv j c (by omega) hc
  · repeat' (first
      | refine a_n ?_
      | (refine k_V ?_; refine v_rv ?_))
    exact q_T fun hm i c hc => hv i c (by have := (List.getElem?_eq_some_iff.1 hc).1; omega) hc
end Go.Proofs.Ytcmllambknfleaa.E
/- HeapOk, the reference's. Conditions: none. -/
set_option linter.unusedVariables false
set_option linter.unusedSimpArgs false
set_option maxHeartbeats 8000000
set_option maxRecDepth 100000
namespace Go.Proofs.Ytcmllambknfleaa.E
open Go
open Classical
theorem specHeapOk_q {m : Mem} {x : HX} (h : Has m x.body) : Qt Try.prog 31 [x.v] m (.int .i64 (okH x.H)) := by
  refine qt_of (fnA_of (fun h => fn31 (by simp) h) ?_)
  refine v_seq (v_reg (a_nwh x rfl (fun b => ?_)))
  have hs : ∀ m', star [hdA b x.hdr, ro m] m' → Has m' (hp b x) := fun m' s => has_new h s (by (fail_if_success apply pm_bad); (repeat (first | exact pm_nil | (apply pm_cons; repeat (first | exact pk_h | apply pk_t)))); fail_if_success focus skip) (F := [])
  repeat' (first
    | (refine k_L ?_; refine a_p rfl ?_)
    | refine a_n ?_
    | refine s_n ?_)
  refine v_seq ?_
  repeat' (first
    | (refine k_L ?_; refine a_p rfl ?_)
    | refine a_n ?_
    | (refine k_V ?_; refine v_reg ?_)
    | refine s_n ?_)
  refine g_cut (fun _ : Unit => [(1, .v (ptr b)), (3, .v (ptr b))]) (fun _ => [hdA b x.hdr, ro m]) (fun _ => R1 x.H) ?_ (fun _ h1 => ?_)
  · repeat' (first
      | (refine k_L ?_; first | refine a_p rfl ?_ | (refine k_c ?_; refine a_cq rfl (fun m hm => l1sizes_q (hs m hm)) ?_))
      | refine a_n ?_
      | (refine k_V ?_; first | refine v_rv ?_ | refine v_seq ?_ | refine v_reg ?_ | refine v_skip ?_ | (refine v_cnd rfl (fun hb => ?_) (fun hb => ?_) <;> try (exfalso; omega)))
      | refine s_n ?_
      | refine s_r ?_)
    · exact fa_q (by simp) (fun _ _ => rfl) (by unfold okH; simp_all)
    · exact j_i () ‹_›
  refine g_cut (fun _ : Unit => [(1, .v (ptr b)), (3, .v (ptr b))]) (fun _ => [hdA b x.hdr, ro m]) (fun _ => R2 x.H) ?_ (fun _ h2 => ?_)
  · repeat' (first
      | (refine k_L ?_; first | refine a_p rfl ?_ | (refine k_c ?_; refine a_cq rfl (fun m hm => l1cells_q (hs m hm)) ?_))
      | refine a_n ?_
      | (refine k_V ?_; first | refine v_rv ?_ | refine v_seq ?_ | refine v_reg ?_ | refine v_skip ?_ | (refine v_cnd rfl (fun hb => ?_) (fun hb => ?_) <;> try (exfalso; omega)))
      | refine s_n ?_
      | refine s_r ?_)
    · exact fa_q (by simp) (fun _ _ => rfl) (by unfold okH; simp_all)
    · exact j_i () ‹_›
  refine g_cut (fun _ : Unit => [(1, .v (ptr b)), (3, .v (ptr b))]) (fun _ => [hdA b x.hdr, ro m]) (fun _ => R3 x.H) ?_ (fun _ h3 => ?_)
  · repeat' (first
      | (refine k_L ?_; first | refine a_p rfl ?_ | (refine k_g ?_; first | refine a_gy rfl rfl ?_ | refine a_gn rfl rfl ?_ | (refine a_gne rfl (fun hb => ?_) (fun hb => ?_) <;> try (exfalso; omega))) | (refine k_l ?_; refine g_l rfl ?_) | (refine k_q ?_; refine a_q rfl (fun m hm => l1units_q (hs m hm) h1 h2) ?_))
      | refine a_n ?_
      | (refine k_V ?_; first | refine v_rv ?_ | refine v_seq ?_ | refine v_dreg ?_ | refine v_skip ?_ | refine v_ct rfl ?_ | (refine v_cd rfl (fun hb => ?_) (fun hb => ?_) <;> try (exfalso; omega)))
      | refine s_n ?_
      | refine s_r ?_)
    · exact fa_q (by simp) (fun _ _ => rfl) (by
        have : ¬ R3 x.H := fun h => absurd h.1.symm ‹_›
        unfold okH; simp_all)
    · exact fa_q (by simp) (fun _ _ => rfl) (by
        have : ¬ R3 x.H := fun h => by have := h.2; have e : x.H.used = x.hdr.used := rfl; have e2 : x.H.room = x.hdr.room := rfl; omega
        unfold okH; simp_all)
    · exact j_i () ⟨Eq.symm ‹_›, by show x.hdr.used ≤ x.hdr.room; omega⟩
  refine g_cut (fun _ : Unit => [(1, .v (ptr b)), (3, .v (ptr b))]) (fun _ => [hdA b x.hdr, ro m]) (fun _ => R4 x.H) ?_ (fun _ h4 => ?_)
  · repeat' (first
      | (refine k_L ?_; first | refine a_p rfl ?_ | (refine k_c ?_; refine a_cq rfl (fun m hm => l1words_q (hs m hm)) ?_))
      | refine a_n ?_
      | (refine k_V ?_; first | refine v_rv ?_ | refine v_seq ?_ | refine v_reg ?_ | refine v_skip ?_ | (refine v_cnd rfl (fun hb => ?_) (fun hb => ?_) <;> try (exfalso; omega)))
      | refine s_n ?_
      | refine s_r ?_)
    · exact fa_q (by simp) (fun _ _ => rfl) (by unfold okH; simp_all)
    · exact j_i () ‹_›
  refine g_cut (fun _ : Unit => [(1, .v (ptr b)), (3, .v (ptr b))]) (fun _ => [hdA b x.hdr, ro m]) (fun _ => R5 x.H) ?_ (fun _ h5 => ?_)
  · repeat' (first
      | (refine k_L ?_; first | refine a_p rfl ?_ | (refine k_c ?_; refine a_cq rfl (fun m hm => l1colors_q (hs m hm) h2) ?_))
      | refine a_n ?_
      | (refine k_V ?_; first | refine v_rv ?_ | refine v_seq ?_ | refine v_reg ?_ | refine v_skip ?_ | (refine v_cnd rfl (fun hb => ?_) (fun hb => ?_) <;> try (exfalso; omega)))
      | refine s_n ?_
      | refine s_r ?_)
    · exact fa_q (by simp) (fun _ _ => rfl) (by unfold okH; simp_all)
    · exact j_i () ‹_›
  refine g_cut (fun _ : Unit => [(1, .v (ptr b)), (3, .v (ptr b))]) (fun _ => [hdA b x.hdr, ro m]) (fun _ => R6 x.H) ?_ (fun _ h6 => ?_)
  · repeat' (first
      | (refine k_L ?_; first | refine a_p rfl ?_ | (refine k_c ?_; refine a_cq rfl (fun m hm => l1hands_q (hs m hm) h1 h5) ?_))
      | refine a_n ?_
      | (refine k_V ?_; first | refine v_rv ?_ | refine v_seq ?_ | refine v_reg ?_ | refine v_skip ?_ | (refine v_cnd rfl (fun hb => ?_) (fun hb => ?_) <;> try (exfalso; omega)))
      | refine s_n ?_
      | refine s_r ?_)
    · exact fa_q (by simp) (fun _ _ => rfl) (by unfold okH; simp_all)
    · exact j_i () ‹_›
  refine g_cut (fun _ : Unit => [(1, .v (ptr b)), (3, .v (ptr b))]) (fun _ => [hdA b x.hdr, ro m]) (fun _ => R7 x.H) ?_ (fun _ h7 => ?_)
  · repeat' (first
      | (refine k_L ?_; first | refine a_p rfl ?_ | (refine k_c ?_; refine a_cq rfl (fun m hm => l1marks_q (hs m hm) h1 h2 h4 h6) ?_))
      | refine a_n ?_
      | (refine k_V ?_; first | refine v_rv ?_ | refine v_seq ?_ | refine v_reg ?_ | refine v_skip ?_ | (refine v_cnd rfl (fun hb => ?_) (fun hb => ?_) <;> try (exfalso; omega)))
      | refine s_n ?_
      | refine s_r ?_)
    · exact fa_q (by simp) (fun _ _ => rfl) (by unfold okH; simp_all)
    · exact j_i () ‹_›
  refine g_cut (fun _ : Unit => [(1, .v (ptr b)), (3, .v (ptr b))]) (fun _ => [hdA b x.hdr, ro m]) (fun _ => R8 x.H) ?_ (fun _ h8 => ?_)
  · repeat' (first
      | (refine k_L ?_; first | refine a_p rfl ?_ | (refine k_c ?_; refine a_cq rfl (fun m hm => l1closing_q (hs m hm)) ?_))
      | refine a_n ?_
      | (refine k_V ?_; first | refine v_rv ?_ | refine v_seq ?_ | refine v_reg ?_ | refine v_skip ?_ | (refine v_cnd rfl (fun hb => ?_) (fun hb => ?_) <;> try (exfalso; omega)))
      | refine s_n ?_
      | refine s_r ?_)
    · exact fa_q (by simp) (fun _ _ => rfl) (by unfold okH; simp_all)
    · exact j_i () ‹_›
  repeat' (first
    | refine a_n ?_
    | (refine k_V ?_; refine v_rv ?_))
  exact fa_q (by simp) (fun _ _ => rfl) (by rw [(okH_sound x.H).2 ⟨h1, h2, h3, h4, h5, h6, h7, h8⟩])
end Go.Proofs.Ytcmllambknfleaa.E
/- The functions of the program in the engine's form, written by a program out of the loaded translation, and checked against it by the kernel. Conditions: none. -/
set_option maxRecDepth 100000
set_option linter.unusedVariables false
namespace Go.Proofs.Ytcmllambknfleaa.E
open Go
/-! (*impl.Heap).nextDue -/
noncomputable def e109 : Env := ⟨Try.prog, [5], 44, [(5, 25)]⟩
noncomputable def c109 : C :=
  .seq (.reg [
    ⟨some 2, none, .mov (.const (.int .i64 0))⟩]) (.seq (.reg [
    ⟨some 3, none, .mov (.const (.int .i64 (-1)))⟩]) (.seq (.seq (.reg [
    ⟨some 6, none, .mov (.tmp 0)⟩,
    ⟨some 7, none, .nilCheck (.tmp 6)⟩,
    ⟨some 8, none, .faddr 4 (.tmp 7)⟩,
    ⟨some 9, none, .load true 1 (.tmp 8)⟩,
    ⟨some 10, none, .lenS (.tmp 9)⟩,
    ⟨some 11, none, .mov (.const (.int .i64 0))⟩]) (.block 0 (.loop (.seq (.reg [
    ⟨some 12, none, .bin .lss (.tmp 11) (.tmp 10)⟩]) (.seq (.cond (.tmp 12) (.skip) (.exit 0)) (.seq (.block 1 (.seq (.reg [
    ⟨some 13, none, .mov (.tmp 11)⟩,
    ⟨some 14, none, .iaddr 8 (.tmp 9) (.tmp 11)⟩,
    ⟨some 15, none, .load false 8 (.tmp 14)⟩,
    ⟨some 5, none, .alloc true [.int .i64 0, .int .i64 0, .int .i64 0, .int .i64 0, .int .i64 0, .int .i64 0, .int .i64 0, .slice none 0 0]⟩,
    ⟨some 4, none, .mov (.tmp 13)⟩,
    ⟨none, none, .store 8 (.tmp 5) (.tmp 15)⟩]) (.seq (.dreg 25 [
    ⟨some 16, none, .faddr 0 (.tmp 5)⟩,
    ⟨some 17, none, .load true 1 (.tmp 16)⟩,
    ⟨some 18, none, .bin .eql (.tmp 17) (.const (.int .i64 1))⟩,
    ⟨some 19, none, .mov (.tmp 18)⟩,
    ⟨some 20, some (19, true), .faddr 3 (.tmp 5)⟩,
    ⟨some 21, some (19, true), .load true 1 (.tmp 20)⟩,
    ⟨some 22, some (19, true), .bin .eql (.tmp 21) (.const (.int .i64 2))⟩,
    ⟨some 23, none, .pick (.tmp 19) (.tmp 22) (.const (.bool false))⟩,
    ⟨some 24, none, .mov (.tmp 23)⟩,
    ⟨some 25, some (24, true), .mov (.tmp 3)⟩,
    ⟨some 26, some (24, true), .bin .lss (.tmp 25) (.const (.int .i64 0))⟩,
    ⟨some 27, some (24, true), .mov (.tmp 26)⟩,
    ⟨some 28, some (27, false), .faddr 4 (.tmp 5)⟩,
    ⟨some 29, some (27, false), .load true 1 (.tmp 28)⟩,
    ⟨some 30, some (27, false), .mov (.tmp 0)⟩,
    ⟨some 31, some (27, false), .nilCheck (.tmp 30)⟩,
    ⟨some 32, some (27, false), .faddr 4 (.tmp 31)⟩,
    ⟨some 33, some (27, false), .load true 1 (.tmp 32)⟩,
    ⟨some 34, some (27, false), .mov (.tmp 3)⟩,
    ⟨some 35, some (27, false), .iaddr 8 (.tmp 33) (.tmp 34)⟩,
    ⟨some 36, some (27, false), .faddr 4 (.tmp 35)⟩,
    ⟨some 37, some (27, false), .load true 1 (.tmp 36)⟩,
    ⟨some 38, some (27, false), .bin .lss (.tmp 29) (.tmp 37)⟩,
    ⟨some 39, some (24, true), .pick (.tmp 27) (.const (.bool true)) (.tmp 38)⟩,
    ⟨some 40, none, .pick (.tmp 24) (.tmp 39) (.const (.bool false))⟩]) (.cond (.tmp 40) (.reg [
    ⟨some 41, none, .mov (.tmp 4)⟩,
    ⟨some 3, none, .mov (.tmp 41)⟩]) (.skip))))) (.reg [
    ⟨some 42, none, .bin .add (.tmp 11) (.const (.int .i64 1))⟩,
    ⟨some 11, none, .mov (.tmp 42)⟩]))))))) (.seq (.reg [
    ⟨some 43, none, .mov (.tmp 3)⟩,
    ⟨some 2, none, .mov (.tmp 43)⟩]) (.ret))))
theorem t109 : Try.f109.body.bind (trC e109) = some c109 := by kernel_rfl
theorem r109 : Try.f109.results.toList.mapM (trR Try.prog) = some [.tmp 2] := by kernel_rfl
theorem fn109 {args : List Value} {M : Mem} {post : Value → Mem → Prop} (hl : args.length ≤ 44) (h : VC e109 c109 (fnQ [.tmp 2] post) (initS args 44) M) : Fn Try.prog 109 args M post :=
  Fn.of' (E := e109) Try.func109 t109 rfl r109 mixed hl h
/-! impl.NextDue -/
noncomputable def e39 : Env := ⟨Try.prog, [], 7, []⟩
noncomputable def c39 : C :=
  .seq (.reg [
    ⟨some 1, none, .box false (.tmp 0)⟩,
    ⟨some 2, none, .mov (.const (.int .i64 0))⟩]) (.seq (.seq (.reg [
    ⟨some 3, none, .load false 13 (.tmp 1)⟩,
    ⟨some 4, none, .call 105 [.tmp 3]⟩,
    ⟨some 5, none, .not (.tmp 4)⟩]) (.cond (.tmp 5) (.seq (.reg [
    ⟨some 2, none, .mov (.const (.int .i64 (-1)))⟩]) (.ret)) (.skip))) (.seq (.reg [
    ⟨some 6, none, .call 109 [.tmp 1]⟩,
    ⟨some 2, none, .mov (.tmp 6)⟩]) (.ret)))
theorem t39 : Try.f39.body.bind (trC e39) = some c39 := by kernel_rfl
theorem r39 : Try.f39.results.toList.mapM (trR Try.prog) = some [.tmp 2] := by kernel_rfl
theorem fn39 {args : List Value} {M : Mem} {post : Value → Mem → Prop} (hl : args.length ≤ 7) (h : VC e39 c39 (fnQ [.tmp 2] post) (initS args 7) M) : Fn Try.prog 39 args M post :=
  Fn.of' (E := e39) Try.func39 t39 rfl r39 mixed hl h
/-! impl.Resolve -/
noncomputable def e36 : Env := ⟨Try.prog, [3, 4], 31, []⟩
noncomputable def c36 : C :=
  .seq (.reg [
    ⟨some 2, none, .box false (.tmp 0)⟩,
    ⟨some 3, none, .box true (.tmp 1)⟩,
    ⟨some 4, none, .alloc true [.int .i64 0, .int .i64 0, .int .i64 0]⟩]) (.seq (.seq (.reg [
    ⟨some 5, none, .load false 13 (.tmp 2)⟩,
    ⟨some 6, none, .call 105 [.tmp 5]⟩,
    ⟨some 7, none, .not (.tmp 6)⟩,
    ⟨some 8, none, .mov (.tmp 7)⟩,
    ⟨some 9, some (8, false), .load false 3 (.tmp 3)⟩,
    ⟨some 10, some (8, false), .call 106 [.tmp 2, .tmp 9]⟩,
    ⟨some 11, some (8, false), .not (.tmp 10)⟩,
    ⟨some 12, none, .pick (.tmp 8) (.const (.bool true)) (.tmp 11)⟩,
    ⟨some 13, none, .mov (.tmp 12)⟩,
    ⟨some 14, some (13, false), .faddr 0 (.tmp 3)⟩,
    ⟨some 15, some (13, false), .load true 1 (.tmp 14)⟩,
    ⟨some 16, some (13, false), .bin .eql (.tmp 15) (.const (.int .i64 2))⟩,
    ⟨some 17, some (13, false), .mov (.tmp 16)⟩,
    ⟨some 18, some (17, true), .faddr 4 (.tmp 2)⟩,
    ⟨some 19, some (17, true), .load true 1 (.tmp 18)⟩,
    ⟨some 20, some (17, true), .faddr 2 (.tmp 3)⟩,
    ⟨some 21, some (17, true), .load true 1 (.tmp 20)⟩,
    ⟨some 22, some (17, true), .iaddr 8 (.tmp 19) (.tmp 21)⟩,
    ⟨some 23, some (17, true), .faddr 0 (.tmp 22)⟩,
    ⟨some 24, some (17, true), .load true 1 (.tmp 23)⟩,
    ⟨some 25, some (17, true), .bin .eql (.tmp 24) (.const (.int .i64 0))⟩,
    ⟨some 26, some (13, false), .pick (.tmp 17) (.tmp 25) (.const (.bool false))⟩,
    ⟨some 27, none, .pick (.tmp 13) (.const (.bool true)) (.tmp 26)⟩]) (.cond (.tmp 27) (.seq (.reg [
    ⟨some 28, none, .build [.int .i64 0, .int .i64 0, .int .i64 0] []⟩,
    ⟨none, none, .store 3 (.tmp 4) (.tmp 28)⟩]) (.ret)) (.skip))) (.seq (.reg [
    ⟨some 29, none, .load false 3 (.tmp 3)⟩,
    ⟨some 30, none, .call 107 [.tmp 2, .tmp 29]⟩,
    ⟨none, none, .store 3 (.tmp 4) (.tmp 30)⟩]) (.ret)))
theorem t36 : Try.f36.body.bind (trC e36) = some c36 := by kernel_rfl
theorem r36 : Try.f36.results.toList.mapM (trR Try.prog) = some [.cell 4 false 3] := by kernel_rfl
theorem fn36 {args : List Value} {M : Mem} {post : Value → Mem → Prop} (hl : args.length ≤ 31) (h : VC e36 c36 (fnQ [.cell 4 false 3] post) (initS args 31) M) : Fn Try.prog 36 args M post :=
  Fn.of' (E := e36) Try.func36 t36 rfl r36 mixed hl h
/-! spec.l4next -/
noncomputable def e108 : Env := ⟨Try.prog, [5], 39, [(5, 20)]⟩
noncomputable def c108 : C :=
  .seq (.reg [
    ⟨some 2, none, .mov (.const (.int .i64 0))⟩]) (.seq (.reg [
    ⟨some 3, none, .mov (.const (.int .i64 (-1)))⟩]) (.seq (.seq (.reg [
    ⟨some 6, none, .mov (.tmp 0)⟩,
    ⟨some 7, none, .nilCheck (.tmp 6)⟩,
    ⟨some 8, none, .faddr 4 (.tmp 7)⟩,
    ⟨some 9, none, .load true 1 (.tmp 8)⟩,
    ⟨some 10, none, .lenS (.tmp 9)⟩,
    ⟨some 11, none, .mov (.const (.int .i64 0))⟩]) (.block 0 (.loop (.seq (.reg [
    ⟨some 12, none, .bin .lss (.tmp 11) (.tmp 10)⟩]) (.seq (.cond (.tmp 12) (.skip) (.exit 0)) (.seq (.block 1 (.seq (.reg [
    ⟨some 13, none, .mov (.tmp 11)⟩,
    ⟨some 14, none, .iaddr 8 (.tmp 9) (.tmp 11)⟩,
    ⟨some 15, none, .load false 8 (.tmp 14)⟩,
    ⟨some 5, none, .alloc true [.int .i64 0, .int .i64 0, .int .i64 0, .int .i64 0, .int .i64 0, .int .i64 0, .int .i64 0, .slice none 0 0]⟩,
    ⟨some 4, none, .mov (.tmp 13)⟩,
    ⟨none, none, .store 8 (.tmp 5) (.tmp 15)⟩]) (.seq (.dreg 20 [
    ⟨some 16, none, .faddr 3 (.tmp 5)⟩,
    ⟨some 17, none, .load true 1 (.tmp 16)⟩,
    ⟨some 18, none, .bin .eql (.tmp 17) (.const (.int .i64 2))⟩,
    ⟨some 19, none, .mov (.tmp 18)⟩,
    ⟨some 20, some (19, true), .mov (.tmp 3)⟩,
    ⟨some 21, some (19, true), .bin .lss (.tmp 20) (.const (.int .i64 0))⟩,
    ⟨some 22, some (19, true), .mov (.tmp 21)⟩,
    ⟨some 23, some (22, false), .faddr 4 (.tmp 5)⟩,
    ⟨some 24, some (22, false), .load true 1 (.tmp 23)⟩,
    ⟨some 25, some (22, false), .mov (.tmp 0)⟩,
    ⟨some 26, some (22, false), .nilCheck (.tmp 25)⟩,
    ⟨some 27, some (22, false), .faddr 4 (.tmp 26)⟩,
    ⟨some 28, some (22, false), .load true 1 (.tmp 27)⟩,
    ⟨some 29, some (22, false), .mov (.tmp 3)⟩,
    ⟨some 30, some (22, false), .iaddr 8 (.tmp 28) (.tmp 29)⟩,
    ⟨some 31, some (22, false), .faddr 4 (.tmp 30)⟩,
    ⟨some 32, some (22, false), .load true 1 (.tmp 31)⟩,
    ⟨some 33, some (22, false), .bin .lss (.tmp 24) (.tmp 32)⟩,
    ⟨some 34, some (19, true), .pick (.tmp 22) (.const (.bool true)) (.tmp 33)⟩,
    ⟨some 35, none, .pick (.tmp 19) (.tmp 34) (.const (.bool false))⟩]) (.cond (.tmp 35) (.reg [
    ⟨some 36, none, .mov (.tmp 4)⟩,
    ⟨some 3, none, .mov (.tmp 36)⟩]) (.skip))))) (.reg [
    ⟨some 37, none, .bin .add (.tmp 11) (.const (.int .i64 1))⟩,
    ⟨some 11, none, .mov (.tmp 37)⟩]))))))) (.seq (.reg [
    ⟨some 38, none, .mov (.tmp 3)⟩,
    ⟨some 2, none, .mov (.tmp 38)⟩]) (.ret))))
theorem t108 : Try.f108.body.bind (trC e108) = some c108 := by kernel_rfl
theorem r108 : Try.f108.results.toList.mapM (trR Try.prog) = some [.tmp 2] := by kernel_rfl
theorem fn108 {args : List Value} {M : Mem} {post : Value → Mem → Prop} (hl : args.length ≤ 39) (h : VC e108 c108 (fnQ [.tmp 2] post) (initS args 39) M) : Fn Try.prog 108 args M post :=
  Fn.of' (E := e108) Try.func108 t108 rfl r108 mixed hl h
/-! spec.NextDue -/
noncomputable def e38 : Env := ⟨Try.prog, [], 7, []⟩
noncomputable def c38 : C :=
  .seq (.reg [
    ⟨some 1, none, .box false (.tmp 0)⟩,
    ⟨some 2, none, .mov (.const (.int .i64 0))⟩]) (.seq (.seq (.reg [
    ⟨some 3, none, .load false 13 (.tmp 1)⟩,
    ⟨some 4, none, .call 31 [.tmp 3]⟩,
    ⟨some 5, none, .bin .neq (.tmp 4) (.const (.int .i64 0))⟩]) (.cond (.tmp 5) (.seq (.reg [
    ⟨some 2, none, .mov (.const (.int .i64 (-1)))⟩]) (.ret)) (.skip))) (.seq (.reg [
    ⟨some 6, none, .call 108 [.tmp 1]⟩,
    ⟨some 2, none, .mov (.tmp 6)⟩]) (.ret)))
theorem t38 : Try.f38.body.bind (trC e38) = some c38 := by kernel_rfl
theorem r38 : Try.f38.results.toList.mapM (trR Try.prog) = some [.tmp 2] := by kernel_rfl
theorem fn38 {args : List Value} {M : Mem} {post : Value → Mem → Prop} (hl : args.length ≤ 7) (h : VC e38 c38 (fnQ [.tmp 2] post) (initS args 7) M) : Fn Try.prog 38 args M post :=
  Fn.of' (E := e38) Try.func38 t38 rfl r38 mixed hl h
/-! spec.Resolve -/
noncomputable def e34 : Env := ⟨Try.prog, [3, 4], 33, []⟩
noncomputable def c34 : C :=
  .seq (.reg [
    ⟨some 2, none, .box false (.tmp 0)⟩,
    ⟨some 3, none, .box true (.tmp 1)⟩,
    ⟨some 4, none, .alloc true [.int .i64 0, .int .i64 0, .int .i64 0]⟩]) (.seq (.seq (.reg [
    ⟨some 5, none, .load false 13 (.tmp 2)⟩,
    ⟨some 6, none, .call 31 [.tmp 5]⟩,
    ⟨some 7, none, .bin .neq (.tmp 6) (.const (.int .i64 0))⟩,
    ⟨some 8, none, .mov (.tmp 7)⟩,
    ⟨some 9, some (8, false), .load false 3 (.tmp 3)⟩,
    ⟨some 10, some (8, false), .faddr 4 (.tmp 2)⟩,
    ⟨some 11, some (8, false), .load true 1 (.tmp 10)⟩,
    ⟨some 12, some (8, false), .lenS (.tmp 11)⟩,
    ⟨some 13, some (8, false), .call 103 [.tmp 9, .tmp 12]⟩,
    ⟨some 14, some (8, false), .not (.tmp 13)⟩,
    ⟨some 15, none, .pick (.tmp 8) (.const (.bool true)) (.tmp 14)⟩]) (.cond (.tmp 15) (.seq (.reg [
    ⟨some 16, none, .build [.int .i64 0, .int .i64 0, .int .i64 0] []⟩,
    ⟨none, none, .store 3 (.tmp 4) (.tmp 16)⟩]) (.ret)) (.skip))) (.seq (.seq (.reg [
    ⟨some 17, none, .faddr 0 (.tmp 3)⟩,
    ⟨some 18, none, .load true 1 (.tmp 17)⟩,
    ⟨some 19, none, .bin .eql (.tmp 18) (.const (.int .i64 2))⟩,
    ⟨some 20, none, .mov (.tmp 19)⟩,
    ⟨some 21, some (20, true), .faddr 4 (.tmp 2)⟩,
    ⟨some 22, some (20, true), .load true 1 (.tmp 21)⟩,
    ⟨some 23, some (20, true), .faddr 2 (.tmp 3)⟩,
    ⟨some 24, some (20, true), .load true 1 (.tmp 23)⟩,
    ⟨some 25, some (20, true), .iaddr 8 (.tmp 22) (.tmp 24)⟩,
    ⟨some 26, some (20, true), .faddr 0 (.tmp 25)⟩,
    ⟨some 27, some (20, true), .load true 1 (.tmp 26)⟩,
    ⟨some 28, some (20, true), .bin .eql (.tmp 27) (.const (.int .i64 0))⟩,
    ⟨some 29, none, .pick (.tmp 20) (.tmp 28) (.const (.bool false))⟩]) (.cond (.tmp 29) (.seq (.reg [
    ⟨some 30, none, .build [.int .i64 0, .int .i64 0, .int .i64 0] []⟩,
    ⟨none, none, .store 3 (.tmp 4) (.tmp 30)⟩]) (.ret)) (.skip))) (.seq (.reg [
    ⟨some 31, none, .load false 3 (.tmp 3)⟩,
    ⟨some 32, none, .call 104 [.tmp 2, .tmp 31]⟩,
    ⟨none, none, .store 3 (.tmp 4) (.tmp 32)⟩]) (.ret))))
theorem t34 : Try.f34.body.bind (trC e34) = some c34 := by kernel_rfl
theorem r34 : Try.f34.results.toList.mapM (trR Try.prog) = some [.cell 4 false 3] := by kernel_rfl
theorem fn34 {args : List Value} {M : Mem} {post : Value → Mem → Prop} (hl : args.length ≤ 33) (h : VC e34 c34 (fnQ [.cell 4 false 3] post) (initS args 33) M) : Fn Try.prog 34 args M post :=
  Fn.of' (E := e34) Try.func34 t34 rfl r34 mixed hl h
end Go.Proofs.Ytcmllambknfleaa.E
/- Resolve, the program's and the reference's. Conditions: none. -/
set_option linter.unusedVariables false
set_option linter.unusedSimpArgs false
set_option maxHeartbeats 4000000
set_option maxRecDepth 100000
namespace Go.Proofs.Ytcmllambknfleaa.E
open Go
open Classical
theorem sound_q {m : Mem} {x : HX} (h : Has m x.body) : Qt Try.prog 105 [x.v] m (.bool (decide (okH x.H = 0))) := by
  refine qt_of (fnA_of (fun h => fn105 (by simp) h) ?_)
  repeat' (first
    | (refine k_L ?_; first | refine a_p rfl ?_ | (refine k_bx ?_; refine a_bx rfl rfl ?_) | (refine k_c ?_; refine a_cq rfl (fun m hm => implHeapOk_q (x := x) (has_g h hm)) ?_))
    | refine a_n ?_
    | (refine k_V ?_; first | refine v_seq ?_ | refine v_reg ?_ | refine v_ret ?_))
  exact fa_q (by simp) (fun _ _ => rfl) rfl
noncomputable def Heap.resolve (H : Heap) (w : Word) : Word := if okH H = 0 ∧ Formed H w ∧ ¬ (w.kind = 2 ∧ (H.getC w.at_).state = 0) then H.lead w else ⟨0, 0, 0⟩
theorem implResolve_q {m : Mem} {x : HX} {w : Word} (h : Has m x.body) : Qt Try.prog 36 [x.v, wa w] m (wa (x.H.resolve w)) := by
  have hl := x.len
  have hf : Formed x.H w → w.kind = 2 → 0 ≤ w.at_ ∧ w.at_ < x.H.cells.length := fun hf hk => hf.at hk
  by_cases hF : Formed x.H w
  · by_cases hk : w.kind = 2
    · have hat := hF.at hk
      have hat' := hat
      rw [x.len] at hat
      obtain ⟨y, gy, gc⟩ := HX.atI (x := x) hat.1 hat.2
      refine qt_of (fnA_of (fun h => fn36 (by simp) h) ?_)
      refine v_seq (v_reg (a_nwh x rfl (fun b => ?_)))
      have hs : ∀ m', star [hdA b x.hdr, ro m] m' → Has m' (hp b x) := fun m' s => has_new h s (by (fail_if_success apply pm_bad); (repeat (first | exact pm_nil | (apply pm_cons; repeat (first | exact pk_h | apply pk_t)))); fail_if_success focus skip) (F := [])
      repeat' (first
        | (refine k_L ?_; first | refine a_p rfl ?_ | (refine k_g ?_; first | refine a_gy rfl rfl ?_ | refine a_gn rfl rfl ?_ | refine a_gu rfl ?_ | (refine a_gd rfl (fun hb => ?_) (fun hb => ?_) <;> try (exfalso; omega)) | (refine a_gne rfl (fun hb => ?_) (fun hb => ?_) <;> try (exfalso; omega)) | (refine a_gnd rfl (fun hb => ?_) (fun hb => ?_) <;> try (exfalso; omega))) | (refine k_l ?_; refine g_l rfl ?_) | (refine k_i ?_; refine g_i rfl rfl ?_) | (refine k_ls ?_; refine g_ls rfl ?_) | (refine k_st ?_; refine g_sw rfl rfl rfl rfl (Nat.le_of_ble_eq_true rfl) ?_) | (refine k_al ?_; refine a_al ?_) | (refine k_bx ?_; refine a_bx rfl rfl ?_) | (refine k_c ?_; first | refine a_cq rfl (fun m hm => sound_q (x := x) (has_g h hm)) ?_ | refine a_cq rfl (fun m hm => formed_q (x := x.hs) (w := w) (hs m hm).ph) ?_ | refine a_cq rfl (fun m hm => lead_q (x := x.hs) (w := w) (hs m hm).ph (hf hF)) ?_))
        | refine a_n ?_
        | (refine k_V ?_; first | refine v_seq ?_ | refine v_reg ?_ | refine v_ret ?_ | refine v_skip ?_ | refine v_ct rfl ?_ | (refine v_cd rfl (fun hb => ?_) (fun hb => ?_) <;> try (exfalso; omega)))
        | refine s_r ?_
        | refine sk_zero ?_
        | refine sk_succ ?_
        | refine wk_nil ?_
        | refine wk_cons ?_)
      all_goals first | exact absurd hF ‹_› | skip
      all_goals refine fa_q (by simp) (fun _ _ => rfl) ?_
      all_goals (unfold Heap.resolve; simp_all <;> rfl)
    · refine qt_of (fnA_of (fun h => fn36 (by simp) h) ?_)
      refine v_seq (v_reg (a_nwh x rfl (fun b => ?_)))
      have hs : ∀ m', star [hdA b x.hdr, ro m] m' → Has m' (hp b x) := fun m' s => has_new h s (by (fail_if_success apply pm_bad); (repeat (first | exact pm_nil | (apply pm_cons; repeat (first | exact pk_h | apply pk_t)))); fail_if_success focus skip) (F := [])
      repeat' (first
        | (refine k_L ?_; first | refine a_p rfl ?_ | (refine k_g ?_; first | refine a_gy rfl rfl ?_ | refine a_gn rfl rfl ?_ | refine a_gu rfl ?_ | (refine a_gd rfl (fun hb => ?_) (fun hb => ?_) <;> try (exfalso; omega)) | (refine a_gne rfl (fun hb => ?_) (fun hb => ?_) <;> try (exfalso; omega)) | (refine a_gnd rfl (fun hb => ?_) (fun hb => ?_) <;> try (exfalso; omega))) | (refine k_ls ?_; refine g_ls rfl ?_) | (refine k_st ?_; refine g_sw rfl rfl rfl rfl (Nat.le_of_ble_eq_true rfl) ?_) | (refine k_al ?_; refine a_al ?_) | (refine k_bx ?_; refine a_bx rfl rfl ?_) | (refine k_c ?_; first | refine a_cq rfl (fun m hm => sound_q (x := x) (has_g h hm)) ?_ | refine a_cq rfl (fun m hm => formed_q (x := x.hs) (w := w) (hs m hm).ph) ?_ | refine a_cq rfl (fun m hm => lead_q (x := x.hs) (w := w) (hs m hm).ph (hf hF)) ?_))
        | refine a_n ?_
        | (refine k_V ?_; first | refine v_seq ?_ | refine v_reg ?_ | refine v_ret ?_ | refine v_skip ?_ | refine v_ct rfl ?_ | refine v_cf rfl ?_)
        | refine s_r ?_
        | refine sk_zero ?_
        | refine sk_succ ?_
        | refine wk_nil ?_
        | refine wk_cons ?_)
      all_goals first | exact absurd hF ‹_› | exact absurd ‹w.kind = 2› hk | skip
      all_goals refine fa_q (by simp) (fun _ _ => rfl) ?_
      all_goals (unfold Heap.resolve; simp_all <;> rfl)
  · refine qt_of (fnA_of (fun h => fn36 (by simp) h) ?_)
    refine v_seq (v_reg (a_nwh x rfl (fun b => ?_)))
    have hs : ∀ m', star [hdA b x.hdr, ro m] m' → Has m' (hp b x) := fun m' s => has_new h s (by (fail_if_success apply pm_bad); (repeat (first | exact pm_nil | (apply pm_cons; repeat (first | exact pk_h | apply pk_t)))); fail_if_success focus skip) (F := [])
    repeat' (first
      | (refine k_L ?_; first | refine a_p rfl ?_ | (refine k_g ?_; first | refine a_gy rfl rfl ?_ | refine a_gn rfl rfl ?_ | refine a_gu rfl ?_ | (refine a_gd rfl (fun hb => ?_) (fun hb => ?_) <;> try (exfalso; omega)) | (refine a_gne rfl (fun hb => ?_) (fun hb => ?_) <;> try (exfalso; omega)) | (refine a_gnd rfl (fun hb => ?_) (fun hb => ?_) <;> try (exfalso; omega))) | (refine k_l ?_; refine g_l rfl ?_) | (refine k_ls ?_; refine g_ls rfl ?_) | (refine k_st ?_; refine g_sw rfl rfl rfl rfl (Nat.le_of_ble_eq_true rfl) ?_) | (refine k_al ?_; refine a_al ?_) | (refine k_bx ?_; refine a_bx rfl rfl ?_) | (refine k_c ?_; first | refine a_cq rfl (fun m hm => sound_q (x := x) (has_g h hm)) ?_ | refine a_cq rfl (fun m hm => formed_q (x := x.hs) (w := w) (hs m hm).ph) ?_))
      | refine a_n ?_
      | (refine k_V ?_; first | refine v_seq ?_ | refine v_reg ?_ | refine v_ret ?_ | refine v_skip ?_ | refine v_ct rfl ?_ | refine v_cf rfl ?_)
      | refine s_r ?_
      | refine sk_zero ?_
      | refine sk_succ ?_
      | refine wk_nil ?_
      | refine wk_cons ?_)
    all_goals first | exact absurd ‹Formed x.H w› hF | skip
    all_goals refine fa_q (by simp) (fun _ _ => rfl) ?_
    all_goals (unfold Heap.resolve; simp_all <;> rfl)
theorem specResolve_q {m : Mem} {x : HX} {w : Word} (h : Has m x.body) : Qt Try.prog 34 [x.v, wa w] m (wa (x.H.resolve w)) := by
  have hl := x.len
  have hf : Formed x.H w → w.kind = 2 → 0 ≤ w.at_ ∧ w.at_ < x.H.cells.length := fun hf hk => hf.at hk
  by_cases hF : Formed x.H w
  · by_cases hk : w.kind = 2
    · have hat := hF.at hk
      have hat' := hat
      rw [x.len] at hat
      obtain ⟨y, gy, gc⟩ := HX.atI (x := x) hat.1 hat.2
      refine qt_of (fnA_of (fun h => fn34 (by simp) h) ?_)
      refine v_seq (v_reg (a_nwh x rfl (fun b => ?_)))
      have hs : ∀ m', star [hdA b x.hdr, ro m] m' → Has m' (hp b x) := fun m' s => has_new h s (by (fail_if_success apply pm_bad); (repeat (first | exact pm_nil | (apply pm_cons; repeat (first | exact pk_h | apply pk_t)))); fail_if_success focus skip) (F := [])
      repeat' (first
        | (refine k_L ?_; first | refine a_p rfl ?_ | (refine k_g ?_; first | refine a_gy rfl rfl ?_ | refine a_gn rfl rfl ?_ | (refine a_gd rfl (fun hb => ?_) (fun hb => ?_) <;> try (exfalso; omega)) | (refine a_gne rfl (fun hb => ?_) (fun hb => ?_) <;> try (exfalso; omega))) | (refine k_l ?_; refine g_l rfl ?_) | (refine k_i ?_; refine g_i rfl rfl ?_) | (refine k_ls ?_; refine g_ls rfl ?_) | (refine k_st ?_; refine g_sw rfl rfl rfl rfl (Nat.le_of_ble_eq_true rfl) ?_) | (refine k_al ?_; refine a_al ?_) | (refine k_bx ?_; refine a_bx rfl rfl ?_) | (refine k_c ?_; first | refine a_cq rfl (fun m hm => specHeapOk_q (x := x) (has_g h hm)) ?_ | refine a_cq rfl (fun m hm => l1formed_q (H := x.H) (w := w) (by rw [hl]; rfl)) ?_ | refine a_cq rfl (fun m hm => l1resolve_q (x := x) (w := w) (hs m hm) (hf hF)) ?_))
        | refine a_n ?_
        | (refine k_V ?_; first | refine v_seq ?_ | refine v_reg ?_ | refine v_ret ?_ | refine v_skip ?_ | refine v_ct rfl ?_ | (refine v_cd rfl (fun hb => ?_) (fun hb => ?_) <;> try (exfalso; omega)) | (refine v_cnd rfl (fun hb => ?_) (fun hb => ?_) <;> try (exfalso; omega)))
        | refine s_r ?_
        | refine sk_zero ?_
        | refine sk_succ ?_
        | refine wk_nil ?_
        | refine wk_cons ?_)
      all_goals first | exact absurd hF ‹_› | skip
      all_goals refine fa_q (by simp) (fun _ _ => rfl) ?_
      all_goals (unfold Heap.resolve; simp_all <;> rfl)
    · refine qt_of (fnA_of (fun h => fn34 (by simp) h) ?_)
      refine v_seq (v_reg (a_nwh x rfl (fun b => ?_)))
      have hs : ∀ m', star [hdA b x.hdr, ro m] m' → Has m' (hp b x) := fun m' s => has_new h s (by (fail_if_success apply pm_bad); (repeat (first | exact pm_nil | (apply pm_cons; repeat (first | exact pk_h | apply pk_t)))); fail_if_success focus skip) (F := [])
      repeat' (first
        | (refine k_L ?_; first | refine a_p rfl ?_ | (refine k_g ?_; first | refine a_gy rfl rfl ?_ | refine a_gn rfl rfl ?_ | (refine a_gd rfl (fun hb => ?_) (fun hb => ?_) <;> try (exfalso; omega)) | (refine a_gne rfl (fun hb => ?_) (fun hb => ?_) <;> try (exfalso; omega))) | (refine k_l ?_; refine g_l rfl ?_) | (refine k_ls ?_; refine g_ls rfl ?_) | (refine k_st ?_; refine g_sw rfl rfl rfl rfl (Nat.le_of_ble_eq_true rfl) ?_) | (refine k_al ?_; refine a_al ?_) | (refine k_bx ?_; refine a_bx rfl rfl ?_) | (refine k_c ?_; first | refine a_cq rfl (fun m hm => specHeapOk_q (x := x) (has_g h hm)) ?_ | refine a_cq rfl (fun m hm => l1formed_q (H := x.H) (w := w) (by rw [hl]; rfl)) ?_ | refine a_cq rfl (fun m hm => l1resolve_q (x := x) (w := w) (hs m hm) (hf hF)) ?_))
        | refine a_n ?_
        | (refine k_V ?_; first | refine v_seq ?_ | refine v_reg ?_ | refine v_ret ?_ | refine v_skip ?_ | refine v_ct rfl ?_ | refine v_cf rfl ?_ | (refine v_cnd rfl (fun hb => ?_) (fun hb => ?_) <;> try (exfalso; omega)))
        | refine s_r ?_
        | refine sk_zero ?_
        | refine sk_succ ?_
        | refine wk_nil ?_
        | refine wk_cons ?_)
      all_goals first | exact absurd hF ‹_› | exact absurd ‹w.kind = 2› hk | skip
      all_goals refine fa_q (by simp) (fun _ _ => rfl) ?_
      all_goals (unfold Heap.resolve; simp_all <;> rfl)
  · refine qt_of (fnA_of (fun h => fn34 (by simp) h) ?_)
    refine v_seq (v_reg (a_nwh x rfl (fun b => ?_)))
    have hs : ∀ m', star [hdA b x.hdr, ro m] m' → Has m' (hp b x) := fun m' s => has_new h s (by (fail_if_success apply pm_bad); (repeat (first | exact pm_nil | (apply pm_cons; repeat (first | exact pk_h | apply pk_t)))); fail_if_success focus skip) (F := [])
    repeat' (first
      | (refine k_L ?_; first | refine a_p rfl ?_ | (refine k_g ?_; first | refine a_gy rfl rfl ?_ | refine a_gn rfl rfl ?_ | (refine a_gd rfl (fun hb => ?_) (fun hb => ?_) <;> try (exfalso; omega)) | (refine a_gne rfl (fun hb => ?_) (fun hb => ?_) <;> try (exfalso; omega))) | (refine k_l ?_; refine g_l rfl ?_) | (refine k_ls ?_; refine g_ls rfl ?_) | (refine k_st ?_; refine g_sw rfl rfl rfl rfl (Nat.le_of_ble_eq_true rfl) ?_) | (refine k_al ?_; refine a_al ?_) | (refine k_bx ?_; refine a_bx rfl rfl ?_) | (refine k_c ?_; first | refine a_cq rfl (fun m hm => specHeapOk_q (x := x) (has_g h hm)) ?_ | refine a_cq rfl (fun m hm => l1formed_q (H := x.H) (w := w) (by rw [hl]; rfl)) ?_))
      | refine a_n ?_
      | (refine k_V ?_; first | refine v_seq ?_ | refine v_reg ?_ | refine v_ret ?_ | refine v_skip ?_ | refine v_ct rfl ?_ | refine v_cf rfl ?_ | (refine v_cnd rfl (fun hb => ?_) (fun hb => ?_) <;> try (exfalso; omega)))
      | refine s_r ?_
      | refine sk_zero ?_
      | refine sk_succ ?_
      | refine wk_nil ?_
      | refine wk_cons ?_)
    all_goals first | exact absurd ‹Formed x.H w› hF | skip
    all_goals refine fa_q (by simp) (fun _ _ => rfl) ?_
    all_goals (unfold Heap.resolve; simp_all <;> rfl)
end Go.Proofs.Ytcmllambknfleaa.E
/- What the laws on heaps share: an argument that is only read, copies of it. Conditions: none. -/
set_option linter.unusedVariables false
set_option linter.unusedSimpArgs false
set_option maxHeartbeats 4000000
set_option maxRecDepth 100000
namespace Go.Proofs.Ytcmllambknfleaa.E
open Go
open Classical
theorem un_le {a b M : Mem} (h1 : a.le M) (h2 : b.le M) : (a.un b).le M := by
  intro x k hk
  cases ha : a x with
  | some k' => rw [un_l ha] at hk; cases hk; exact h1 x k ha
  | none => rw [un_n ha] at hk; exact h2 x k hk
theorem toHeap_a {M : Mem} {x : HS} (hb : x.H.bulk ≤ 1048576) (hx : RHVR M x) : FnA Try.prog 32 [x.v] [ro M] (fun v As => ∃ y : HX, v = y.v ∧ y.H = x.H ∧ As = ro M :: y.body) :=
  ⟨fun m hm => by
    obtain ⟨a, e', d, rfl, h1, h2⟩ := hm
    have h1 : a = M := h1
    have h2 : e' = emp := h2
    subst h1; subst h2
    rw [un_emp]
    refine (toHeap_f hb hx).mono ?_
    rintro v M' ⟨y, rfl, hy, hw, hf, hle⟩
    obtain ⟨x', rfl, hs⟩ := body_w hw
    refine ⟨ro a :: x'.body, a.un (resL M' x'.hs.fp), un_le hle (resL_le _ _), ⟨a, _, ?_, rfl, rfl, hs⟩, x', rfl, hy, rfl⟩
    intro b
    by_cases hb : b ∈ x'.hs.fp
    · exact .inl (hf b hb)
    · right; unfold resL; rw [if_neg hb]⟩
theorem has_p {m : Mem} {As Bs F : List Asr} (hm : star As m) (hp : Pm As Bs F := by (fail_if_success apply pm_bad); (repeat (first | exact pm_nil | (apply pm_cons; repeat (first | exact pk_h | apply pk_t)))); fail_if_success focus skip) : Has m Bs := by
  obtain ⟨a, b, d, rfl, h, _⟩ := star_append.1 (hp.out m hm)
  exact ⟨a, le_l _ _, h⟩
theorem qt_e {P : Program} {f : FuncId} {args : List Value} {m : Mem} {r r' : Value} (h : Qt P f args m r) (e : r = r') : Qt P f args m r' := e ▸ h
end Go.Proofs.Ytcmllambknfleaa.E
/- NextDue, the program's and the reference's. Conditions: none. -/
set_option linter.unusedVariables false
set_option linter.unusedSimpArgs false
set_option maxHeartbeats 4000000
set_option maxRecDepth 100000
namespace Go.Proofs.Ytcmllambknfleaa.E
open Go
open Classical
/-- the earliest born, among the first i cells, of those that are due -/
noncomputable def ndG (H : Heap) : Nat → Int
  | 0 => -1
  | i + 1 => if (H.getC i).last = 2 ∧ (ndG H i < 0 ∨ (H.getC i).born < (H.getC (ndG H i)).born) then (i : Int) else ndG H i
theorem ndG_lt (H : Heap) : ∀ i, -1 ≤ ndG H i ∧ ndG H i < i
  | 0 => by simp [ndG]
  | i + 1 => by
    have := ndG_lt H i
    unfold ndG
    split <;> omega
noncomputable def Heap.nextDue (H : Heap) : Int := if okH H = 0 then ndG H H.cells.length else -1
theorem getC_nat {H : Heap} {i : Nat} {c : Cell} (h : H.cells[i]? = some c) : H.getC (i : Int) = c := by
  unfold Heap.getC
  simp [h]
theorem last2 {H : Heap} (h : R2 H) {i : Nat} {c : Cell} (hc : H.cells[i]? = some c) (hl : c.last = 2) : c.state = 1 := by
  rcases h.each i c hc with h | h | h
  · have := h.2.1.2.2.1; omega
  · have := h.2.1.2.2.1; omega
  · exact h.1
theorem nextDueLoop_q {m : Mem} {a : Nat} {x : HX} (h : Has m (hp a x)) (h2 : R2 x.H) : Qt Try.prog 109 [ptr a] m (.int .i64 (ndG x.H x.H.cells.length)) := by
  have hb0 := h.lens
  have hl := x.len
  refine qt_of (fnA_of (fun h => fn109 (by simp) h) ?_)
  repeat' (first
    | (refine k_L ?_; first | refine a_p rfl ?_ | (refine k_l ?_; refine g_l rfl ?_))
    | refine a_n ?_
    | (refine k_V ?_; first | refine v_seq ?_ | refine v_reg ?_)
    | refine s_n ?_)
  refine g_range x.xs.length (fun n : Int => [(0, .v (ptr a)), (3, .v (.int .i64 n)), (9, .v (.slice x.cd.a x.xs.length x.cd.cap))]) (fun _ => [ro m]) (fun i n => n = ndG x.H i) (-1) rfl (fun i n hi hn => ?_) (fun n hn => ?_)
  · obtain ⟨y, gy, gc⟩ := HX.at hi
    have gi := getC_nat gc
    have hb := ndG_lt x.H i
    have hs := last2 h2 gc
    by_cases hn0 : n < 0
    · have e : ndG x.H (i + 1) = if y.c.last = 2 then (i : Int) else n := by
        show (if _ then _ else _) = _
        rw [gi, ← hn]; simp [hn0]
      repeat' (first
        | (refine k_L ?_; first | refine a_p rfl ?_ | (refine k_g ?_; first | refine a_gy rfl rfl ?_ | refine a_gn rfl rfl ?_ | refine a_gu rfl ?_ | (refine a_gd rfl (fun hb => ?_) (fun hb => ?_) <;> try (exfalso; omega))) | (refine k_i ?_; refine g_i rfl rfl ?_) | (refine k_ls ?_; refine g_ls rfl ?_) | (refine k_st ?_; refine g_sw rfl rfl rfl rfl (Nat.le_of_ble_eq_true rfl) ?_) | (refine k_al ?_; refine a_al ?_))
        | refine a_n ?_
        | (refine k_V ?_; first | refine v_seq ?_ | refine v_reg ?_ | refine v_dreg ?_ | refine v_skip ?_ | refine v_ct rfl ?_ | refine v_cf rfl ?_)
        | refine sk_zero ?_
        | refine sk_succ ?_
        | refine wk_nil ?_
        | refine wk_cons ?_)
      · exact r_nx i (by rw [e]; simp_all)
      · exact r_nx n (by rw [e]; simp_all)
      · exact r_nx n (by rw [e, if_neg]; intro hc; first | exact absurd (hs hc) ‹_› | exact absurd (hs hc.1) ‹_›)
    · obtain ⟨z, gz, gd⟩ := HX.atI (x := x) (i := n) (by omega) (by omega)
      have e : ndG x.H (i + 1) = if y.c.last = 2 ∧ y.c.born < z.c.born then (i : Int) else n := by
        show (if _ then _ else _) = _
        rw [gi, ← hn, gd]; simp [hn0]
      repeat' (first
        | (refine k_L ?_; first | refine a_p rfl ?_ | (refine k_g ?_; first | refine a_gy rfl rfl ?_ | refine a_gn rfl rfl ?_ | refine a_gu rfl ?_ | (refine a_gd rfl (fun hb => ?_) (fun hb => ?_) <;> try (exfalso; omega))) | (refine k_l ?_; refine g_l rfl ?_) | (refine k_i ?_; refine g_i rfl rfl ?_) | (refine k_ls ?_; refine g_ls rfl ?_) | (refine k_st ?_; refine g_sw rfl rfl rfl rfl (Nat.le_of_ble_eq_true rfl) ?_) | (refine k_al ?_; refine a_al ?_))
        | refine a_n ?_
        | (refine k_V ?_; first | refine v_seq ?_ | refine v_reg ?_ | refine v_dreg ?_ | refine v_skip ?_ | refine v_cf rfl ?_ | (refine v_cd rfl (fun hb => ?_) (fun hb => ?_) <;> try (exfalso; omega)))
        | refine sk_zero ?_
        | refine sk_succ ?_
        | refine wk_nil ?_
        | refine wk_cons ?_)
      · exact r_nx i (by rw [e]; simp_all)
      · exact r_nx n (by rw [e, if_neg (fun hc => absurd hc.2 ‹_›)])
      · exact r_nx n (by rw [e]; simp_all)
      · exact r_nx n (by rw [e, if_neg]; intro hc; first | exact absurd (hs hc) ‹_› | exact absurd (hs hc.1) ‹_›)
  · subst hn
    repeat' (first
      | (refine k_L ?_; refine a_p rfl ?_)
      | refine a_n ?_
      | (refine k_V ?_; first | refine v_seq ?_ | refine v_reg ?_ | refine v_ret ?_))
    exact fa_q (by simp) (fun _ _ => rfl) (by rw [hl])
theorem l4next_q {m : Mem} {a : Nat} {x : HX} (h : Has m (hp a x)) : Qt Try.prog 108 [ptr a] m (.int .i64 (ndG x.H x.H.cells.length)) := by
  have hb0 := h.lens
  have hl := x.len
  refine qt_of (fnA_of (fun h => fn108 (by simp) h) ?_)
  repeat' (first
    | (refine k_L ?_; first | refine a_p rfl ?_ | (refine k_l ?_; refine g_l rfl ?_))
    | refine a_n ?_
    | (refine k_V ?_; first | refine v_seq ?_ | refine v_reg ?_)
    | refine s_n ?_)
  refine g_range x.xs.length (fun n : Int => [(0, .v (ptr a)), (3, .v (.int .i64 n)), (9, .v (.slice x.cd.a x.xs.length x.cd.cap))]) (fun _ => [ro m]) (fun i n => n = ndG x.H i) (-1) rfl (fun i n hi hn => ?_) (fun n hn => ?_)
  · obtain ⟨y, gy, gc⟩ := HX.at hi
    have gi := getC_nat gc
    have hb := ndG_lt x.H i
    by_cases hn0 : n < 0
    · have e : ndG x.H (i + 1) = if y.c.last = 2 then (i : Int) else n := by
        show (if _ then _ else _) = _
        rw [gi, ← hn]; simp [hn0]
      repeat' (first
        | (refine k_L ?_; first | refine a_p rfl ?_ | (refine k_g ?_; first | refine a_gy rfl rfl ?_ | refine a_gn rfl rfl ?_ | refine a_gu rfl ?_ | (refine a_gd rfl (fun hb => ?_) (fun hb => ?_) <;> try (exfalso; omega))) | (refine k_i ?_; refine g_i rfl rfl ?_) | (refine k_ls ?_; refine g_ls rfl ?_) | (refine k_st ?_; refine g_sw rfl rfl rfl rfl (Nat.le_of_ble_eq_true rfl) ?_) | (refine k_al ?_; refine a_al ?_))
        | refine a_n ?_
        | (refine k_V ?_; first | refine v_seq ?_ | refine v_reg ?_ | refine v_dreg ?_ | refine v_skip ?_ | refine v_ct rfl ?_ | refine v_cf rfl ?_)
        | refine sk_zero ?_
        | refine sk_succ ?_
        | refine wk_nil ?_
        | refine wk_cons ?_)
      · exact r_nx i (by rw [e]; simp_all)
      · exact r_nx n (by rw [e]; simp_all)
    · obtain ⟨z, gz, gd⟩ := HX.atI (x := x) (i := n) (by omega) (by omega)
      have e : ndG x.H (i + 1) = if y.c.last = 2 ∧ y.c.born < z.c.born then (i : Int) else n := by
        show (if _ then _ else _) = _
        rw [gi, ← hn, gd]; simp [hn0]
      repeat' (first
        | (refine k_L ?_; first | refine a_p rfl ?_ | (refine k_g ?_; first | refine a_gy rfl rfl ?_ | refine a_gn rfl rfl ?_ | refine a_gu rfl ?_ | (refine a_gd rfl (fun hb => ?_) (fun hb => ?_) <;> try (exfalso; omega))) | (refine k_l ?_; refine g_l rfl ?_) | (refine k_i ?_; refine g_i rfl rfl ?_) | (refine k_ls ?_; refine g_ls rfl ?_) | (refine k_st ?_; refine g_sw rfl rfl rfl rfl (Nat.le_of_ble_eq_true rfl) ?_) | (refine k_al ?_; refine a_al ?_))
        | refine a_n ?_
        | (refine k_V ?_; first | refine v_seq ?_ | refine v_reg ?_ | refine v_dreg ?_ | refine v_skip ?_ | refine v_cf rfl ?_ | (refine v_cd rfl (fun hb => ?_) (fun hb => ?_) <;> try (exfalso; omega)))
        | refine sk_zero ?_
        | refine sk_succ ?_
        | refine wk_nil ?_
        | refine wk_cons ?_)
      · exact r_nx i (by rw [e]; simp_all)
      · exact r_nx n (by rw [e, if_neg (fun hc => absurd hc.2 ‹_›)])
      · exact r_nx n (by rw [e]; simp_all)
  · subst hn
    repeat' (first
      | (refine k_L ?_; refine a_p rfl ?_)
      | refine a_n ?_
      | (refine k_V ?_; first | refine v_seq ?_ | refine v_reg ?_ | refine v_ret ?_))
    exact fa_q (by simp) (fun _ _ => rfl) (by rw [hl])
theorem implNextDue_q {m : Mem} {x : HX} (h : Has m x.body) : Qt Try.prog 39 [x.v] m (.int .i64 x.H.nextDue) := by
  unfold Heap.nextDue
  by_cases hS : okH x.H = 0
  · have h2 := ((okH_sound x.H).1 hS).r2
    refine qt_of (fnA_of (fun h => fn39 (by simp) h) ?_)
    refine v_seq (v_reg (a_nwh x rfl (fun b => ?_)))
    have hs : ∀ m', star [hdA b x.hdr, ro m] m' → Has m' (hp b x) := fun m' s => has_new h s (by (fail_if_success apply pm_bad); (repeat (first | exact pm_nil | (apply pm_cons; repeat (first | exact pk_h | apply pk_t)))); fail_if_success focus skip) (F := [])
    repeat' (first
      | (refine k_L ?_; first | refine a_p rfl ?_ | (refine k_ls ?_; refine g_ls rfl ?_) | (refine k_c ?_; first | refine a_cq rfl (fun m hm => qt_e (sound_q (x := x) (has_g h hm)) (congrArg Value.bool (decide_eq_true hS))) ?_ | refine a_cq rfl (fun m hm => nextDueLoop_q (hs m hm) h2) ?_))
      | refine a_n ?_
      | (refine k_V ?_; first | refine v_seq ?_ | refine v_reg ?_ | refine v_ret ?_ | refine v_skip ?_ | refine v_cf rfl ?_))
    exact fa_q (by simp) (fun _ _ => rfl) (by rw [if_pos hS])
  · refine qt_of (fnA_of (fun h => fn39 (by simp) h) ?_)
    refine v_seq (v_reg (a_nwh x rfl (fun b => ?_)))
    repeat' (first
      | (refine k_L ?_; first | refine a_p rfl ?_ | (refine k_ls ?_; refine g_ls rfl ?_) | (refine k_c ?_; refine a_cq rfl (fun m hm => qt_e (sound_q (x := x) (has_g h hm)) (congrArg Value.bool (decide_eq_false hS))) ?_))
      | refine a_n ?_
      | (refine k_V ?_; first | refine v_rv ?_ | refine v_seq ?_ | refine v_reg ?_ | refine v_ct rfl ?_)
      | refine s_r ?_)
    exact fa_q (by simp) (fun _ _ => rfl) (by rw [if_neg hS])
theorem specNextDue_q {m : Mem} {x : HX} (h : Has m x.body) : Qt Try.prog 38 [x.v] m (.int .i64 x.H.nextDue) := by
  unfold Heap.nextDue
  refine qt_of (fnA_of (fun h => fn38 (by simp) h) ?_)
  refine v_seq (v_reg (a_nwh x rfl (fun b => ?_)))
  have hs : ∀ m', star [hdA b x.hdr, ro m] m' → Has m' (hp b x) := fun m' s => has_new h s (by (fail_if_success apply pm_bad); (repeat (first | exact pm_nil | (apply pm_cons; repeat (first | exact pk_h | apply pk_t)))); fail_if_success focus skip) (F := [])
  repeat' (first
    | (refine k_L ?_; first | refine a_p rfl ?_ | (refine k_ls ?_; refine g_ls rfl ?_) | (refine k_c ?_; first | refine a_cq rfl (fun m hm => specHeapOk_q (x := x) (has_g h hm)) ?_ | refine a_cq rfl (fun m hm => l4next_q (hs m hm)) ?_))
    | refine a_n ?_
    | (refine k_V ?_; first | refine v_rv ?_ | refine v_seq ?_ | refine v_reg ?_ | refine v_ret ?_ | refine v_skip ?_ | (refine v_cn rfl (fun hb => ?_) (fun hb => ?_) <;> try (exfalso; omega)))
    | refine s_r ?_)
  · exact fa_q (by simp) (fun _ _ => rfl) (by rw [if_neg ‹_›])
  · exact fa_q (by simp) (fun _ _ => rfl) (by rw [if_pos ‹_›])
end Go.Proofs.Ytcmllambknfleaa.E
/- The functions of the program in the engine's form, written by a program out of the loaded translation, and checked against it by the kernel. Conditions: none. -/
set_option maxRecDepth 100000
set_option linter.unusedVariables false
namespace Go.Proofs.Ytcmllambknfleaa.E
open Go
/-! laws.FnExactNextDue -/
noncomputable def e8 : Env := ⟨Try.prog, [1, 5], 27, [(10, 0)]⟩
noncomputable def c8 : C :=
  .seq (.reg [
    ⟨some 1, none, .box true (.tmp 0)⟩,
    ⟨some 2, none, .mov (.const (.bool false))⟩]) (.seq (.reg [
    ⟨some 3, none, .mov (.const (.int .i64 1048576))⟩]) (.seq (.reg [
    ⟨some 7, none, .load false 13 (.tmp 1)⟩,
    ⟨some 8, none, .mov (.tmp 3)⟩,
    ⟨some 9, none, .call 30 [.tmp 7, .tmp 8]⟩,
    ⟨some 3, none, .mov (.tmp 9)⟩]) (.seq (.seq (.reg [
    ⟨some 10, none, .mov (.tmp 3)⟩,
    ⟨some 11, none, .bin .lss (.tmp 10) (.const (.int .i64 0))⟩]) (.cond (.tmp 11) (.seq (.reg [
    ⟨some 2, none, .mov (.const (.bool true))⟩]) (.ret)) (.skip))) (.seq (.reg [
    ⟨some 12, none, .load false 13 (.tmp 1)⟩,
    ⟨some 13, none, .call 32 [.tmp 12]⟩,
    ⟨some 14, none, .call 38 [.tmp 13]⟩,
    ⟨some 4, none, .mov (.tmp 14)⟩]) (.seq (.reg [
    ⟨some 15, none, .load false 13 (.tmp 1)⟩,
    ⟨some 16, none, .call 32 [.tmp 15]⟩,
    ⟨some 5, none, .alloc true [.int .i64 0, .int .i64 0, .int .i64 0, .slice none 0 0, .slice none 0 0, .int .i64 0, .int .i64 0, .int .i64 0, .slice none 0 0, .int .i64 0, .int .i64 0, .int .i64 0, .int .i64 0]⟩,
    ⟨none, none, .store 13 (.tmp 5) (.tmp 16)⟩]) (.seq (.reg [
    ⟨some 17, none, .load false 13 (.tmp 5)⟩,
    ⟨some 18, none, .call 39 [.tmp 17]⟩,
    ⟨some 6, none, .mov (.tmp 18)⟩]) (.seq (.seq (.reg [
    ⟨some 19, none, .mov (.tmp 6)⟩,
    ⟨some 20, none, .mov (.tmp 4)⟩,
    ⟨some 21, none, .bin .neq (.tmp 19) (.tmp 20)⟩]) (.cond (.tmp 21) (.seq (.reg [
    ⟨some 2, none, .mov (.const (.bool false))⟩]) (.ret)) (.skip))) (.seq (.seq (.zreg [22, 23, 24, 25, 26] [
    ⟨some 22, none, .load false 13 (.tmp 5)⟩,
    ⟨some 23, none, .load false 13 (.tmp 1)⟩] [
    ⟨some 24, none, .call 32 [.tmp 23]⟩,
    ⟨some 25, none, .call 27 [.tmp 22, .tmp 24]⟩,
    ⟨some 26, none, .not (.tmp 25)⟩]) (.cond (.tmp 26) (.seq (.reg [
    ⟨some 2, none, .mov (.const (.bool false))⟩]) (.ret)) (.skip))) (.seq (.reg [
    ⟨some 2, none, .mov (.const (.bool true))⟩]) (.ret))))))))))
theorem t8 : Try.f8.body.bind (trC e8) = some c8 := by kernel_rfl
theorem r8 : Try.f8.results.toList.mapM (trR Try.prog) = some [.tmp 2] := by kernel_rfl
theorem fn8 {args : List Value} {M : Mem} {post : Value → Mem → Prop} (hl : args.length ≤ 27) (h : VC e8 c8 (fnQ [.tmp 2] post) (initS args 27) M) : Fn Try.prog 8 args M post :=
  Fn.of' (E := e8) Try.func8 t8 rfl r8 mixed hl h
end Go.Proofs.Ytcmllambknfleaa.E
/- The law on NextDue. Conditions: none. -/
set_option linter.unusedVariables false
set_option linter.unusedSimpArgs false
set_option maxHeartbeats 4000000
set_option maxRecDepth 100000
namespace Go.Proofs.Ytcmllambknfleaa.E
open Go
open Classical
theorem fnExactNextDue_q {M : Mem} {x : HS} (hx : RHVR M x) : Qt Try.prog 8 [x.v] M (.bool true) := by
  refine qt_of (fnA_of (fun h => fn8 (by simp) h) ?_)
  repeat' (first
    | (refine k_L ?_; first | refine a_p rfl ?_ | (refine k_bx ?_; refine a_bx rfl rfl ?_) | (refine k_c ?_; refine a_cq rfl (fun m hm => szHeap_q (by omega) (by omega) (hx.le (ro_of hm (by (fail_if_success apply pm_bad); (repeat (first | exact pm_nil | (apply pm_cons; repeat (first | exact pk_h | apply pk_t)))); fail_if_success focus skip)))) ?_))
    | refine a_n ?_
    | (refine k_V ?_; first | refine v_rv ?_ | refine v_seq ?_ | refine v_reg ?_ | refine v_skip ?_ | (refine v_cd rfl (fun hb => ?_) (fun hb => ?_) <;> try (exfalso; omega)))
    | refine s_r ?_)
  · exact fa_q (by simp) (fun _ _ => rfl) rfl
  have hb' : x.H.bulk ≤ 1048576 := by
    by_cases h : x.H.bulk ≤ 1048576
    · exact h
    · rw [if_neg h] at *; omega
  refine g_c rfl (toHeap_a hb' hx) (fun v As' hq => ?_)
  obtain ⟨y, rfl, hy, rfl⟩ := hq
  repeat' (first
    | (refine k_L ?_; first | refine a_p rfl ?_ | (refine k_c ?_; refine a_cq rfl (fun m hm => qt_e (specNextDue_q (x := y) (has_p hm)) (by rw [hy])) ?_))
    | refine a_n ?_
    | (refine k_V ?_; first | refine v_seq ?_ | refine v_reg ?_))
  refine g_c rfl (toHeap_a hb' hx) (fun v As' hq => ?_)
  obtain ⟨z, rfl, hz, rfl⟩ := hq
  repeat' (first
    | (refine k_L ?_; first | refine a_p rfl ?_ | (refine k_st ?_; refine g_sw rfl rfl rfl rfl (Nat.le_of_ble_eq_true rfl) ?_) | (refine k_al ?_; refine a_al ?_) | (refine k_c ?_; refine a_cq rfl (fun m hm => qt_e (implNextDue_q (x := z) (has_p hm)) (by rw [hz])) ?_))
    | refine a_n ?_
    | (refine k_V ?_; first | refine v_seq ?_ | refine v_reg ?_ | refine v_zreg ?_ | refine v_skip ?_ | (refine v_cn rfl (fun hb => ?_) (fun hb => ?_) <;> try (exfalso; omega)))
    | refine sk_zero ?_
    | refine sk_succ ?_
    | refine wk_nil ?_
    | refine wk_cons ?_)
  refine g_c rfl (toHeap_a hb' hx) (fun v As' hq => ?_)
  obtain ⟨u, rfl, hu, rfl⟩ := hq
  repeat' (first
    | (refine k_L ?_; first | refine a_p rfl ?_ | (refine k_c ?_; refine a_cq rfl (fun m hm => qt_e (eqHeap_q (x := z.hs) (y := u.hs) (has_p hm).b (has_p hm).b) (congrArg Value.bool (decide_eq_true (hz.trans hu.symm)))) ?_))
    | refine a_n ?_
    | (refine k_V ?_; first | refine v_rv ?_ | refine v_skip ?_ | refine v_cf rfl ?_))
  exact fa_q (by simp) (fun _ _ => rfl) rfl
end Go.Proofs.Ytcmllambknfleaa.E
/- The row of NextDue. Conditions: none. -/
set_option linter.unusedVariables false
set_option linter.unusedSimpArgs false
set_option maxRecDepth 100000
namespace Go.Proofs.Ytcmllambknfleaa.E
open Go Go.ChangeShapes Go.WideShapes Go.ChangeAt Go.RowKit
theorem liftedNextDue (os : Os) (started : os.Started) (H : Type) (enc : TypeId × Value → H) :
    ReturnsInHanded {} Try.checked os 8 .any (Rows.fnExactNextDueSpec.pre6 enc Try.prog Try.f8 Rows.fnExactNextDueRow.domain false) (Rows.fnExactNextDueSpec.post enc Try.prog Try.f8 false true false false) := by
  refine returnsInHanded_of_change_sized (C := Try.checked) ownknob started (by kernel_rfl) Try.func8
    (ChangeSpec.witness6 (enc := enc) (C := Try.checked) false ⟨#[], #[.agg #[.int .i64 0, .int .i64 0, .int .i64 0, .slice none 0 0, .slice none 0 0, .int .i64 0, .int .i64 0, .int .i64 0, .slice none 0 0, .int .i64 0, .int .i64 0, .int .i64 0, .int .i64 0]], []⟩ 8 (by kernel_rfl) (by kernel_rfl) (by kernel_rfl) (by kernel_rfl)) ?_
  intro W base args ds gs before hval0 hW hcnd hsz0 _
  have hval : ∀ (j : Nat) t v, Try.f8.params[j]? = some t → args[j]? = some v → Value.okWide Try.prog W .any base t v := hval0
  have hW' := hW
  obtain ⟨p, q, hA0, hV, rfl, hfz, hnd⟩ := hW
  have hA : DataW.TrodAll enc Try.prog W 0 (fun _ => true) true [43] args.toList ds p := hA0
  obtain ⟨v0, d0, rfl, rfl, h0⟩ := trodAll_one hA
  obtain ⟨rfl, rfl⟩ := trodVars_none hV
  obtain ⟨cs, rfl, _⟩ := okWide_struct und_heap (hval 0 43 v0 rfl rfl)
  clear hA0 hval0 hsz0
  have h0k := h0
  obtain ⟨fuel, h0'⟩ := h0
  obtain ⟨x, e, hx⟩ := open_heap h0'
  have e : cs = (hv x.H x.rs x.cs x.gs).toArray := by
    have : cs.toList = hv x.H x.rs x.cs x.gs := e
    rw [← this]
  subst e
  have hlt : ∀ x ∈ p, x.block < W.heap.size := fun x hx => by simpa using hW'.lt x (by simp [hx])
  have hq : Fn Try.prog 8 [x.v] (memOf W) (fun v M' => v = .bool true ∧ (memOf W).le M') := (fnExactNextDue_q hx).mono fun v M' ⟨h1, h2⟩ => ⟨h1, by rw [h2]; exact Mem.le_refl _⟩
  refine (row_of hq).mono fun e W' ⟨he, bel⟩ => ?_
  subst he
  have hT := Below.trod laid (by kernel_rfl) (of_decide_eq_true (by kernel_rfl)) h0k bel hlt
  exact ⟨_, rfl, _, _, _, [], _, [], hW', trodAll_mk1 (shut_bool und_bool _), trodAll_mk1 hT, rfl, bel.frame _, fun h => by cases h⟩
end Go.Proofs.Ytcmllambknfleaa.E
namespace Go.Proofs.Ytcmllambknfleaa
open Go.ChangeShapes Go.WideShapes Go.ChangeAt Go.RowKit
/-- The row, under a short name, for the claim. -/
theorem fnExactNextDue_holds : Rows.FnExactNextDueSaid :=
  OpenClaim.holds_of_wide 8 Try.f8 rfl rfl rfl rfl rfl rfl rfl ⟨rfl, rfl, rfl, rfl, rfl⟩ rfl rfl rfl rfl rfl (by kernel_rfl) Try.func8 jfNextDue
    (of_decide_eq_true (by kernel_rfl)) (by unfold Func.isWrapper; first | (rw [if_pos (by decide +kernel)]; kernel_rfl) | (rw [if_neg (by decide +kernel)]; exact ⟨rfl, rfl⟩))
    (fun os started H enc _ => E.liftedNextDue os started H enc)
end Go.Proofs.Ytcmllambknfleaa
