/- The reference's rules 6 and 7. Conditions: none. -/
import Derived.Test.YtcmllambknfleaaKB12
import Derived.Test.YtcmllambknfleaaJfResolve
set_option linter.unusedVariables false
set_option linter.unusedSimpArgs false
set_option maxHeartbeats 8000000
set_option maxRecDepth 100000
namespace Go.Proofs.Ytcmllambknfleaa.E
open Go
open Classical
theorem l1hands_q {m : Mem} {a : Nat} {x : HX} (h : Has m (hp a x)) (h1 : R1 x.H) (h5 : R5 x.H) : Qt Try.prog 89 [ptr a] m (.bool (decide (R6 x.H))) := by
  have hb := h.lens
  have hh := h1.hand
  have hl := x.len
  have hnc : (x.hdr.nc : Int) = x.xs.length := rfl
  refine qt_of (fnA_of (fun h => fn89 (by simp) h) ?_)
  by_cases hp2 : x.phase = 2
  · have hm := (h5.mark (.inr hp2)).2.1
    have hp2' : x.hdr.phase = 2 := hp2
    cases hg : x.gray with
    | nil =>
      have hgl : (x.hdr.ng : Int) = 0 := by simp [HX.hdr, hg]
      have hg' : x.H.gray = [] := hg
      repeat' (first
        | (refine k_L ?_; first | (refine k_ad ?_; refine g_ad rfl rfl ?_) | (refine k_su ?_; refine g_su rfl rfl ?_) | (refine k_ml ?_; refine g_ml rfl rfl ?_) | refine a_p rfl ?_ | (refine k_g ?_; first | refine a_gy rfl rfl ?_ | refine a_gn rfl rfl ?_ | refine a_gu rfl ?_ | (refine a_gd rfl (fun hb => ?_) (fun hb => ?_) <;> try (exfalso; omega)) | (refine a_ge rfl (fun hb => ?_) (fun hb => ?_) <;> try (exfalso; omega)) | (refine a_gne rfl (fun hb => ?_) (fun hb => ?_) <;> try (exfalso; omega)) | (refine a_gnd rfl (fun hb => ?_) (fun hb => ?_) <;> try (exfalso; omega))) | (refine k_l ?_; first | refine g_l rfl ?_) | (refine k_i ?_; refine g_i rfl rfl ?_) | (refine k_ls ?_; refine g_ls rfl ?_) | (refine k_st ?_; first | refine g_st rfl rfl rfl rfl ?_ | refine g_sw rfl rfl rfl rfl (Nat.le_of_ble_eq_true rfl) ?_) | (refine k_al ?_; refine a_al ?_) | (refine k_bx ?_; refine a_bx rfl rfl ?_) | (refine k_bl ?_; refine a_bl rfl ?_) | (refine k_p ?_; first | (refine a_pd rfl (fun hb => ?_) (fun hb => ?_) <;> try (exfalso; omega)) | (refine a_pe rfl (fun hb => ?_) (fun hb => ?_) <;> try (exfalso; omega)) | (refine a_pne rfl (fun hb => ?_) (fun hb => ?_) <;> try (exfalso; omega)) | (refine a_pnd rfl (fun hb => ?_) (fun hb => ?_) <;> try (exfalso; omega))))
        | refine a_n ?_
        | (refine k_V ?_; first | refine v_rv ?_ | refine v_seq ?_ | refine v_reg ?_ | refine v_dreg ?_ | refine v_zreg ?_ | refine v_bs ?_ | refine v_br ?_ | refine v_bd ?_ | refine v_bc ?_ | refine v_bk ?_ | refine v_bb ?_ | refine v_ret ?_ | refine v_exit ?_ | refine v_skip ?_ | refine v_ct rfl ?_ | refine v_cf rfl ?_ | (refine v_cd rfl (fun hb => ?_) (fun hb => ?_) <;> try (exfalso; omega)) | (refine v_ce rfl (fun hb => ?_) (fun hb => ?_) <;> try (exfalso; omega)) | (refine v_cn rfl (fun hb => ?_) (fun hb => ?_) <;> try (exfalso; omega)) | (refine v_cnd rfl (fun hb => ?_) (fun hb => ?_) <;> try (exfalso; omega)))
        | refine s_n ?_
        | refine s_r ?_
        | refine s_e ?_
        | refine b_n ?_
        | refine b_r ?_
        | refine b_e ?_
        | refine b_o rfl ?_
        | refine r_rt ?_
        | refine r_bk rfl ?_
        | refine r_ex rfl rfl ?_
        | refine sk_zero ?_
        | refine sk_succ ?_
        | refine wk_nil ?_
        | refine wk_cons ?_)
      all_goals refine q_B (fun _ _ => rfl) ?_
      all_goals simp_all [R6, HX.hdr, Hdr.s_room, Hdr.s_used, Hdr.s_born, Hdr.s_phase, Hdr.s_hand, Hdr.s_sub, Hdr.s_per, Hdr.s_start, Hdr.s_rounds, Hdr.s_forced, Hdr.s_rd, Hdr.s_cd, Hdr.s_gd, HX.H]
    | cons g r =>
      have hgl1 : (x.hdr.ng : Int) = r.length + 1 := by simp [HX.hdr, hg]
      have hg' : x.H.gray = g :: r := hg
      obtain ⟨g0, g1, _⟩ := hm g (by rw [hg']; simp)
      obtain ⟨y, gy, gc⟩ := HX.atI (x := x) g0 (by omega)
      have g00 : x.gray[(0 : Int).toNat]? = some g := by rw [hg]; rfl
      repeat' (first
        | (refine k_L ?_; first | (refine k_ad ?_; refine g_ad rfl rfl ?_) | (refine k_su ?_; refine g_su rfl rfl ?_) | (refine k_ml ?_; refine g_ml rfl rfl ?_) | refine a_p rfl ?_ | (refine k_g ?_; first | refine a_gy rfl rfl ?_ | refine a_gn rfl rfl ?_ | refine a_gu rfl ?_ | (refine a_gd rfl (fun hb => ?_) (fun hb => ?_) <;> try (exfalso; omega)) | (refine a_ge rfl (fun hb => ?_) (fun hb => ?_) <;> try (exfalso; omega)) | (refine a_gne rfl (fun hb => ?_) (fun hb => ?_) <;> try (exfalso; omega)) | (refine a_gnd rfl (fun hb => ?_) (fun hb => ?_) <;> try (exfalso; omega))) | (refine k_l ?_; first | refine g_l rfl ?_) | (refine k_i ?_; refine g_i rfl rfl ?_) | (refine k_ls ?_; refine g_ls rfl ?_) | (refine k_st ?_; first | refine g_st rfl rfl rfl rfl ?_ | refine g_sw rfl rfl rfl rfl (Nat.le_of_ble_eq_true rfl) ?_) | (refine k_al ?_; refine a_al ?_) | (refine k_bx ?_; refine a_bx rfl rfl ?_) | (refine k_bl ?_; refine a_bl rfl ?_) | (refine k_p ?_; first | (refine a_pd rfl (fun hb => ?_) (fun hb => ?_) <;> try (exfalso; omega)) | (refine a_pe rfl (fun hb => ?_) (fun hb => ?_) <;> try (exfalso; omega)) | (refine a_pne rfl (fun hb => ?_) (fun hb => ?_) <;> try (exfalso; omega)) | (refine a_pnd rfl (fun hb => ?_) (fun hb => ?_) <;> try (exfalso; omega))))
        | refine a_n ?_
        | (refine k_V ?_; first | refine v_rv ?_ | refine v_seq ?_ | refine v_reg ?_ | refine v_dreg ?_ | refine v_zreg ?_ | refine v_bs ?_ | refine v_br ?_ | refine v_bd ?_ | refine v_bc ?_ | refine v_bk ?_ | refine v_bb ?_ | refine v_ret ?_ | refine v_exit ?_ | refine v_skip ?_ | refine v_ct rfl ?_ | refine v_cf rfl ?_ | (refine v_cd rfl (fun hb => ?_) (fun hb => ?_) <;> try (exfalso; omega)) | (refine v_ce rfl (fun hb => ?_) (fun hb => ?_) <;> try (exfalso; omega)) | (refine v_cn rfl (fun hb => ?_) (fun hb => ?_) <;> try (exfalso; omega)) | (refine v_cnd rfl (fun hb => ?_) (fun hb => ?_) <;> try (exfalso; omega)))
        | refine s_n ?_
        | refine s_r ?_
        | refine s_e ?_
        | refine b_n ?_
        | refine b_r ?_
        | refine b_e ?_
        | refine b_o rfl ?_
        | refine r_rt ?_
        | refine r_bk rfl ?_
        | refine r_ex rfl rfl ?_
        | refine sk_zero ?_
        | refine sk_succ ?_
        | refine wk_nil ?_
        | refine wk_cons ?_)
      all_goals refine q_B (fun _ _ => rfl) ?_
      all_goals simp_all [R6, HX.hdr, Hdr.s_room, Hdr.s_used, Hdr.s_born, Hdr.s_phase, Hdr.s_hand, Hdr.s_sub, Hdr.s_per, Hdr.s_start, Hdr.s_rounds, Hdr.s_forced, Hdr.s_rd, Hdr.s_cd, Hdr.s_gd]
      all_goals simp_all [HX.H]
  · have hp2' : ¬ x.hdr.phase = 2 := hp2
    have hh' : 0 ≤ x.hdr.hand ∧ x.hdr.hand ≤ x.hdr.nc := by rw [hl] at hh; exact hh
    by_cases hh5 : x.hand < x.xs.length
    · obtain ⟨y, gy, gc⟩ := HX.atI (x := x) hh.1 hh5
      have hh5' : x.hdr.hand < x.hdr.nc := hh5
      have gc' : x.H.getC x.hand = y.c := gc
      repeat' (first
        | (refine k_L ?_; first | (refine k_ad ?_; refine g_ad rfl rfl ?_) | (refine k_su ?_; refine g_su rfl rfl ?_) | (refine k_ml ?_; refine g_ml rfl rfl ?_) | refine a_p rfl ?_ | (refine k_g ?_; first | refine a_gy rfl rfl ?_ | refine a_gn rfl rfl ?_ | refine a_gu rfl ?_ | (refine a_gd rfl (fun hb => ?_) (fun hb => ?_) <;> try (exfalso; omega)) | (refine a_ge rfl (fun hb => ?_) (fun hb => ?_) <;> try (exfalso; omega)) | (refine a_gne rfl (fun hb => ?_) (fun hb => ?_) <;> try (exfalso; omega)) | (refine a_gnd rfl (fun hb => ?_) (fun hb => ?_) <;> try (exfalso; omega))) | (refine k_l ?_; first | refine g_l rfl ?_) | (refine k_i ?_; refine g_i rfl rfl ?_) | (refine k_ls ?_; refine g_ls rfl ?_) | (refine k_st ?_; first | refine g_st rfl rfl rfl rfl ?_ | refine g_sw rfl rfl rfl rfl (Nat.le_of_ble_eq_true rfl) ?_) | (refine k_al ?_; refine a_al ?_) | (refine k_bx ?_; refine a_bx rfl rfl ?_) | (refine k_bl ?_; refine a_bl rfl ?_) | (refine k_q ?_; first | refine a_q rfl (fun m hm => l1used_q (i := x.hand) (has_g h hm) hh.1 (by rw [hl]; exact hh5)) ?_) | (refine k_c ?_; first | refine a_cq rfl (fun m hm => l1used_q (i := x.hand) (has_g h hm) hh.1 (by rw [hl]; exact hh5)) ?_) | (refine k_p ?_; first | (refine a_pd rfl (fun hb => ?_) (fun hb => ?_) <;> try (exfalso; omega)) | (refine a_pe rfl (fun hb => ?_) (fun hb => ?_) <;> try (exfalso; omega)) | (refine a_pne rfl (fun hb => ?_) (fun hb => ?_) <;> try (exfalso; omega)) | (refine a_pnd rfl (fun hb => ?_) (fun hb => ?_) <;> try (exfalso; omega))))
        | refine a_n ?_
        | (refine k_V ?_; first | refine v_rv ?_ | refine v_seq ?_ | refine v_reg ?_ | refine v_dreg ?_ | refine v_zreg ?_ | refine v_bs ?_ | refine v_br ?_ | refine v_bd ?_ | refine v_bc ?_ | refine v_bk ?_ | refine v_bb ?_ | refine v_ret ?_ | refine v_exit ?_ | refine v_skip ?_ | refine v_ct rfl ?_ | refine v_cf rfl ?_ | (refine v_cd rfl (fun hb => ?_) (fun hb => ?_) <;> try (exfalso; omega)) | (refine v_ce rfl (fun hb => ?_) (fun hb => ?_) <;> try (exfalso; omega)) | (refine v_cn rfl (fun hb => ?_) (fun hb => ?_) <;> try (exfalso; omega)) | (refine v_cnd rfl (fun hb => ?_) (fun hb => ?_) <;> try (exfalso; omega)))
        | refine s_n ?_
        | refine s_r ?_
        | refine s_e ?_
        | refine b_n ?_
        | refine b_r ?_
        | refine b_e ?_
        | refine b_o rfl ?_
        | refine r_rt ?_
        | refine r_bk rfl ?_
        | refine r_ex rfl rfl ?_
        | refine sk_zero ?_
        | refine sk_succ ?_
        | refine wk_nil ?_
        | refine wk_cons ?_)
      all_goals refine q_B (fun _ _ => rfl) ?_
      all_goals (try simp only [decide_eq_true_eq])
      all_goals simp only [HX.hdr, Hdr.s_room, Hdr.s_used, Hdr.s_born, Hdr.s_phase, Hdr.s_hand, Hdr.s_sub, Hdr.s_per, Hdr.s_start, Hdr.s_rounds, Hdr.s_forced, Hdr.s_rd, Hdr.s_cd, Hdr.s_gd] at *
      all_goals unfold R6
      all_goals simp_all
      all_goals simp_all [HX.H]
    · have hh5' : ¬ (x.hdr.hand < x.hdr.nc) := hh5
      repeat' (first
        | (refine k_L ?_; first | (refine k_ad ?_; refine g_ad rfl rfl ?_) | (refine k_su ?_; refine g_su rfl rfl ?_) | (refine k_ml ?_; refine g_ml rfl rfl ?_) | refine a_p rfl ?_ | (refine k_g ?_; first | refine a_gy rfl rfl ?_ | refine a_gn rfl rfl ?_ | refine a_gu rfl ?_ | (refine a_gd rfl (fun hb => ?_) (fun hb => ?_) <;> try (exfalso; omega)) | (refine a_ge rfl (fun hb => ?_) (fun hb => ?_) <;> try (exfalso; omega)) | (refine a_gne rfl (fun hb => ?_) (fun hb => ?_) <;> try (exfalso; omega)) | (refine a_gnd rfl (fun hb => ?_) (fun hb => ?_) <;> try (exfalso; omega))) | (refine k_l ?_; first | refine g_l rfl ?_) | (refine k_i ?_; refine g_i rfl rfl ?_) | (refine k_ls ?_; refine g_ls rfl ?_) | (refine k_st ?_; first | refine g_st rfl rfl rfl rfl ?_ | refine g_sw rfl rfl rfl rfl (Nat.le_of_ble_eq_true rfl) ?_) | (refine k_al ?_; refine a_al ?_) | (refine k_bx ?_; refine a_bx rfl rfl ?_) | (refine k_bl ?_; refine a_bl rfl ?_) | (refine k_p ?_; first | (refine a_pd rfl (fun hb => ?_) (fun hb => ?_) <;> try (exfalso; omega)) | (refine a_pe rfl (fun hb => ?_) (fun hb => ?_) <;> try (exfalso; omega)) | (refine a_pne rfl (fun hb => ?_) (fun hb => ?_) <;> try (exfalso; omega)) | (refine a_pnd rfl (fun hb => ?_) (fun hb => ?_) <;> try (exfalso; omega))))
        | refine a_n ?_
        | (refine k_V ?_; first | refine v_rv ?_ | refine v_seq ?_ | refine v_reg ?_ | refine v_dreg ?_ | refine v_zreg ?_ | refine v_bs ?_ | refine v_br ?_ | refine v_bd ?_ | refine v_bc ?_ | refine v_bk ?_ | refine v_bb ?_ | refine v_ret ?_ | refine v_exit ?_ | refine v_skip ?_ | refine v_ct rfl ?_ | refine v_cf rfl ?_ | (refine v_cd rfl (fun hb => ?_) (fun hb => ?_) <;> try (exfalso; omega)) | (refine v_ce rfl (fun hb => ?_) (fun hb => ?_) <;> try (exfalso; omega)) | (refine v_cn rfl (fun hb => ?_) (fun hb => ?_) <;> try (exfalso; omega)) | (refine v_cnd rfl (fun hb => ?_) (fun hb => ?_) <;> try (exfalso; omega)))
        | refine s_n ?_
        | refine s_r ?_
        | refine s_e ?_
        | refine b_n ?_
        | refine b_r ?_
        | refine b_e ?_
        | refine b_o rfl ?_
        | refine r_rt ?_
        | refine r_bk rfl ?_
        | refine r_ex rfl rfl ?_
        | refine sk_zero ?_
        | refine sk_succ ?_
        | refine wk_nil ?_
        | refine wk_cons ?_)
      all_goals refine q_B (fun _ _ => rfl) ?_
      all_goals (try simp only [decide_eq_true_eq])
      all_goals simp only [HX.hdr, Hdr.s_room, Hdr.s_used, Hdr.s_born, Hdr.s_phase, Hdr.s_hand, Hdr.s_sub, Hdr.s_per, Hdr.s_start, Hdr.s_rounds, Hdr.s_forced, Hdr.s_rd, Hdr.s_cd, Hdr.s_gd] at *
      all_goals unfold R6
      all_goals simp_all
      all_goals simp_all [HX.H]
theorem bool_d {p : Prop} {_ : Decidable p} {b : Bool} (h : b = true ↔ p) : Value.bool b = .bool (decide p) := by congr 1; rw [Bool.eq_iff_iff, h]; simp
theorem scanned_le {H : Heap} (h1 : R1 H) (h6 : R6 H) {i : Nat} {c : Cell} (hc : H.cells[i]? = some c) : 0 ≤ scanned H i c ∧ scanned H i c ≤ c.pairs.length := by
  unfold scanned
  split
  · omega
  · split
    · rename_i hg
      unfold R6 at h6
      rw [if_neg (by rw [hg.1]; decide), if_pos hg.1] at h6
      cases hgr : H.gray with
      | nil => rw [hgr] at hg; simp at hg
      | cons g r =>
        rw [hgr] at hg h6
        have hgi : g = (i : Int) := by simpa using hg.2
        have h3 := h6.2
        simp only [hgi] at h3
        have hgc : H.getC (i : Int) = c := by unfold Heap.getC; rw [List.getD_eq_getElem?_getD]; show (H.cells[i]?).getD _ = _; rw [hc]; rfl
        rw [hgc] at h3
        exact ⟨h1.sub.1, h3⟩
    · omega
theorem l1marks_q {m : Mem} {a : Nat} {x : HX} (h : Has m (hp a x)) (h1 : R1 x.H) (h2 : R2 x.H) (h4 : R4 x.H) (h6 : R6 x.H) : Qt Try.prog 90 [ptr a] m (.bool (decide (R7 x.H))) := by
  have hb := h.lens
  have hl := x.len
  have hnc : (x.hdr.nc : Int) = x.xs.length := rfl
  refine qt_of (fnA_of (fun h => fn90 (by simp) h) ?_)
  refine v_seq ?_
  repeat' (first
    | (refine k_L ?_; first | (refine k_ad ?_; refine g_ad rfl rfl ?_) | (refine k_su ?_; refine g_su rfl rfl ?_) | (refine k_ml ?_; refine g_ml rfl rfl ?_) | refine a_p rfl ?_ | (refine k_g ?_; first | refine a_gy rfl rfl ?_ | refine a_gn rfl rfl ?_ | refine a_gu rfl ?_ | (refine a_gd rfl (fun hb => ?_) (fun hb => ?_) <;> try (exfalso; omega)) | (refine a_ge rfl (fun hb => ?_) (fun hb => ?_) <;> try (exfalso; omega)) | (refine a_gne rfl (fun hb => ?_) (fun hb => ?_) <;> try (exfalso; omega)) | (refine a_gnd rfl (fun hb => ?_) (fun hb => ?_) <;> try (exfalso; omega))) | (refine k_l ?_; first | refine g_l rfl ?_) | (refine k_i ?_; refine g_i rfl rfl ?_) | (refine k_ls ?_; refine g_ls rfl ?_) | (refine k_st ?_; first | refine g_st rfl rfl rfl rfl ?_ | refine g_sw rfl rfl rfl rfl (Nat.le_of_ble_eq_true rfl) ?_) | (refine k_al ?_; refine a_al ?_) | (refine k_bx ?_; refine a_bx rfl rfl ?_) | (refine k_bl ?_; refine a_bl rfl ?_) | (refine k_p ?_; first | (refine a_pd rfl (fun hb => ?_) (fun hb => ?_) <;> try (exfalso; omega)) | (refine a_pe rfl (fun hb => ?_) (fun hb => ?_) <;> try (exfalso; omega)) | (refine a_pne rfl (fun hb => ?_) (fun hb => ?_) <;> try (exfalso; omega)) | (refine a_pnd rfl (fun hb => ?_) (fun hb => ?_) <;> try (exfalso; omega))))
    | refine a_n ?_
    | (refine k_V ?_; first | refine v_rv ?_ | refine v_reg ?_ | refine v_dreg ?_ | refine v_zreg ?_ | refine v_bs ?_ | refine v_br ?_ | refine v_bd ?_ | refine v_bc ?_ | refine v_bk ?_ | refine v_bb ?_ | refine v_ret ?_ | refine v_exit ?_ | refine v_skip ?_ | refine v_ct rfl ?_ | refine v_cf rfl ?_ | (refine v_cd rfl (fun hb => ?_) (fun hb => ?_) <;> try (exfalso; omega)) | (refine v_ce rfl (fun hb => ?_) (fun hb => ?_) <;> try (exfalso; omega)) | (refine v_cn rfl (fun hb => ?_) (fun hb => ?_) <;> try (exfalso; omega)) | (refine v_cnd rfl (fun hb => ?_) (fun hb => ?_) <;> try (exfalso; omega)))
    | refine s_n ?_
    | refine s_r ?_
    | refine s_e ?_
    | refine b_n ?_
    | refine b_r ?_
    | refine b_e ?_
    | refine b_o rfl ?_
    | refine r_rt ?_
    | refine r_bk rfl ?_
    | refine r_ex rfl rfl ?_
    | refine sk_zero ?_
    | refine sk_succ ?_
    | refine wk_nil ?_
    | refine wk_cons ?_)
  refine g_cut (fun _ : Unit => [(0, .v (ptr a))]) (fun _ => [ro m]) (fun _ => Marking x.H) ?_ (fun _ hmk => ?_)
  · repeat' (first
      | (refine k_L ?_; first | (refine k_ad ?_; refine g_ad rfl rfl ?_) | (refine k_su ?_; refine g_su rfl rfl ?_) | (refine k_ml ?_; refine g_ml rfl rfl ?_) | refine a_p rfl ?_ | (refine k_g ?_; first | refine a_gy rfl rfl ?_ | refine a_gn rfl rfl ?_ | refine a_gu rfl ?_ | (refine a_gd rfl (fun hb => ?_) (fun hb => ?_) <;> try (exfalso; omega)) | (refine a_ge rfl (fun hb => ?_) (fun hb => ?_) <;> try (exfalso; omega)) | (refine a_gne rfl (fun hb => ?_) (fun hb => ?_) <;> try (exfalso; omega)) | (refine a_gnd rfl (fun hb => ?_) (fun hb => ?_) <;> try (exfalso; omega))) | (refine k_l ?_; first | refine g_l rfl ?_) | (refine k_i ?_; refine g_i rfl rfl ?_) | (refine k_ls ?_; refine g_ls rfl ?_) | (refine k_st ?_; first | refine g_st rfl rfl rfl rfl ?_ | refine g_sw rfl rfl rfl rfl (Nat.le_of_ble_eq_true rfl) ?_) | (refine k_al ?_; refine a_al ?_) | (refine k_bx ?_; refine a_bx rfl rfl ?_) | (refine k_bl ?_; refine a_bl rfl ?_) | (refine k_p ?_; first | (refine a_pd rfl (fun hb => ?_) (fun hb => ?_) <;> try (exfalso; omega)) | (refine a_pe rfl (fun hb => ?_) (fun hb => ?_) <;> try (exfalso; omega)) | (refine a_pne rfl (fun hb => ?_) (fun hb => ?_) <;> try (exfalso; omega)) | (refine a_pnd rfl (fun hb => ?_) (fun hb => ?_) <;> try (exfalso; omega))))
      | refine a_n ?_
      | (refine k_V ?_; first | refine v_rv ?_ | refine v_seq ?_ | refine v_reg ?_ | refine v_dreg ?_ | refine v_zreg ?_ | refine v_bs ?_ | refine v_br ?_ | refine v_bd ?_ | refine v_bc ?_ | refine v_bk ?_ | refine v_bb ?_ | refine v_ret ?_ | refine v_exit ?_ | refine v_skip ?_ | refine v_ct rfl ?_ | refine v_cf rfl ?_ | (refine v_cd rfl (fun hb => ?_) (fun hb => ?_) <;> try (exfalso; omega)) | (refine v_ce rfl (fun hb => ?_) (fun hb => ?_) <;> try (exfalso; omega)) | (refine v_cn rfl (fun hb => ?_) (fun hb => ?_) <;> try (exfalso; omega)) | (refine v_cnd rfl (fun hb => ?_) (fun hb => ?_) <;> try (exfalso; omega)))
      | refine s_n ?_
      | refine s_r ?_
      | refine s_e ?_
      | refine b_n ?_
      | refine b_r ?_
      | refine b_e ?_
      | refine b_o rfl ?_
      | refine r_rt ?_
      | refine r_bk rfl ?_
      | refine r_ex rfl rfl ?_
      | refine sk_zero ?_
      | refine sk_succ ?_
      | refine wk_nil ?_
      | refine wk_cons ?_)
    · exact q_T fun hk => by rcases hk with hk | hk <;> contradiction
    · exact j_i () (.inr ‹_›)
    · exact j_i () (.inl ‹_›)
  have g0 : (∃ g, x.gray[(0 : Int).toNat]? = some g ∧ x.H.gray.head? = some g) ∨ (x.hdr.ng : Int) = 0 ∧ x.H.gray.head? = none := by
    show (∃ g, x.gray[(0 : Int).toNat]? = some g ∧ x.gray.head? = some g) ∨ (x.gray.length : Int) = 0 ∧ x.gray.head? = none
    cases x.gray with
    | nil => exact .inr ⟨rfl, rfl⟩
    | cons g r => exact .inl ⟨g, rfl, rfl⟩
  have hng : x.hdr.ng = x.gray.length := rfl
  repeat' (first
    | (refine k_L ?_; first | (refine k_ad ?_; refine g_ad rfl rfl ?_) | (refine k_su ?_; refine g_su rfl rfl ?_) | (refine k_ml ?_; refine g_ml rfl rfl ?_) | refine a_p rfl ?_ | (refine k_g ?_; first | refine a_gy rfl rfl ?_ | refine a_gn rfl rfl ?_ | refine a_gu rfl ?_ | (refine a_gd rfl (fun hb => ?_) (fun hb => ?_) <;> try (exfalso; omega)) | (refine a_ge rfl (fun hb => ?_) (fun hb => ?_) <;> try (exfalso; omega)) | (refine a_gne rfl (fun hb => ?_) (fun hb => ?_) <;> try (exfalso; omega)) | (refine a_gnd rfl (fun hb => ?_) (fun hb => ?_) <;> try (exfalso; omega))) | (refine k_l ?_; first | refine g_l rfl ?_) | (refine k_i ?_; refine g_i rfl rfl ?_) | (refine k_ls ?_; refine g_ls rfl ?_) | (refine k_st ?_; first | refine g_st rfl rfl rfl rfl ?_ | refine g_sw rfl rfl rfl rfl (Nat.le_of_ble_eq_true rfl) ?_) | (refine k_al ?_; refine a_al ?_) | (refine k_bx ?_; refine a_bx rfl rfl ?_) | (refine k_bl ?_; refine a_bl rfl ?_) | (refine k_p ?_; first | (refine a_pd rfl (fun hb => ?_) (fun hb => ?_) <;> try (exfalso; omega)) | (refine a_pe rfl (fun hb => ?_) (fun hb => ?_) <;> try (exfalso; omega)) | (refine a_pne rfl (fun hb => ?_) (fun hb => ?_) <;> try (exfalso; omega)) | (refine a_pnd rfl (fun hb => ?_) (fun hb => ?_) <;> try (exfalso; omega))))
    | refine a_n ?_
    | (refine k_V ?_; first | refine v_rv ?_ | refine v_seq ?_ | refine v_reg ?_ | refine v_dreg ?_ | refine v_zreg ?_ | refine v_bs ?_ | refine v_br ?_ | refine v_bd ?_ | refine v_bc ?_ | refine v_bk ?_ | refine v_bb ?_ | refine v_ret ?_ | refine v_exit ?_ | refine v_skip ?_ | refine v_ct rfl ?_ | refine v_cf rfl ?_ | (refine v_cd rfl (fun hb => ?_) (fun hb => ?_) <;> try (exfalso; omega)) | (refine v_ce rfl (fun hb => ?_) (fun hb => ?_) <;> try (exfalso; omega)) | (refine v_cn rfl (fun hb => ?_) (fun hb => ?_) <;> try (exfalso; omega)) | (refine v_cnd rfl (fun hb => ?_) (fun hb => ?_) <;> try (exfalso; omega)))
    | refine s_n ?_
    | refine s_r ?_
    | refine s_e ?_
    | refine b_n ?_
    | refine b_r ?_
    | refine b_e ?_
    | refine b_o rfl ?_
    | refine r_rt ?_
    | refine r_bk rfl ?_
    | refine r_ex rfl rfl ?_
    | refine sk_zero ?_
    | refine sk_succ ?_
    | refine wk_nil ?_
    | refine wk_cons ?_)
  refine g_range x.xs.length (fun _ : Unit => [(0, .v (ptr a)), (23, .v (.slice x.cd.a x.xs.length x.cd.cap))]) (fun _ => [ro m]) (fun i _ => ∀ (j : Nat) c, j < i → x.H.cells[j]? = some c → OK7 x.H j c) () (fun j c hj => by omega) (fun i _ hi hv => ?_) (fun _ hv => ?_)
  · obtain ⟨y, gy, gc⟩ := HX.at hi
    have hbp : y.c.pairs.length ≤ 140737488355328 := by obtain ⟨b, l, s⟩ := h; exact (kn_t (kn_t (kn_h (kb_cp gy))) : Kn (hp a x) _).out b s
    have hsc : (if y.c.color = 2 then (y.c.pairs.length : Int) else if x.hdr.phase = 2 ∧ x.H.gray.head? = some (i : Int) then x.hdr.sub else 0) = scanned x.H i y.c := rfl
    have hroot : (y.c.last = 1 ∨ y.c.last = 2) → Root y.c := fun hl => ⟨by
      rcases h2.each i _ gc with h | h | h
      · have := h.2.1.2.2.1; omega
      · have := h.2.1.2.2.1; omega
      · exact h.1, hl⟩
    refine v_seq ?_
    repeat' (first
      | (refine k_L ?_; first | (refine k_ad ?_; refine g_ad rfl rfl ?_) | (refine k_su ?_; refine g_su rfl rfl ?_) | (refine k_ml ?_; refine g_ml rfl rfl ?_) | refine a_p rfl ?_ | (refine k_g ?_; first | refine a_gy rfl rfl ?_ | refine a_gn rfl rfl ?_ | refine a_gu rfl ?_ | (refine a_gd rfl (fun hb => ?_) (fun hb => ?_) <;> try (exfalso; omega)) | (refine a_ge rfl (fun hb => ?_) (fun hb => ?_) <;> try (exfalso; omega)) | (refine a_gne rfl (fun hb => ?_) (fun hb => ?_) <;> try (exfalso; omega)) | (refine a_gnd rfl (fun hb => ?_) (fun hb => ?_) <;> try (exfalso; omega))) | (refine k_l ?_; first | refine g_l rfl ?_) | (refine k_i ?_; refine g_i rfl rfl ?_) | (refine k_ls ?_; refine g_ls rfl ?_) | (refine k_st ?_; first | refine g_st rfl rfl rfl rfl ?_ | refine g_sw rfl rfl rfl rfl (Nat.le_of_ble_eq_true rfl) ?_) | (refine k_al ?_; refine a_al ?_) | (refine k_bx ?_; refine a_bx rfl rfl ?_) | (refine k_bl ?_; refine a_bl rfl ?_) | (refine k_p ?_; first | (refine a_pd rfl (fun hb => ?_) (fun hb => ?_) <;> try (exfalso; omega)) | (refine a_pe rfl (fun hb => ?_) (fun hb => ?_) <;> try (exfalso; omega)) | (refine a_pne rfl (fun hb => ?_) (fun hb => ?_) <;> try (exfalso; omega)) | (refine a_pnd rfl (fun hb => ?_) (fun hb => ?_) <;> try (exfalso; omega))))
      | refine a_n ?_
      | (refine k_V ?_; first | refine v_rv ?_ | refine v_reg ?_ | refine v_dreg ?_ | refine v_zreg ?_ | refine v_bs ?_ | refine v_br ?_ | refine v_bd ?_ | refine v_bc ?_ | refine v_bk ?_ | refine v_bb ?_ | refine v_ret ?_ | refine v_exit ?_ | refine v_skip ?_ | refine v_ct rfl ?_ | refine v_cf rfl ?_ | (refine v_cd rfl (fun hb => ?_) (fun hb => ?_) <;> try (exfalso; omega)) | (refine v_ce rfl (fun hb => ?_) (fun hb => ?_) <;> try (exfalso; omega)) | (refine v_cn rfl (fun hb => ?_) (fun hb => ?_) <;> try (exfalso; omega)) | (refine v_cnd rfl (fun hb => ?_) (fun hb => ?_) <;> try (exfalso; omega)))
      | refine s_n ?_
      | refine s_r ?_
      | refine s_e ?_
      | refine b_n ?_
      | refine b_r ?_
      | refine b_e ?_
      | refine b_o rfl ?_
      | refine r_rt ?_
      | refine r_bk rfl ?_
      | refine r_ex rfl rfl ?_
      | refine sk_zero ?_
      | refine sk_succ ?_
      | refine wk_nil ?_
      | refine wk_cons ?_)
    refine g_cut (fun _ : Unit => [(0, .v (ptr a)), (3, .v (.int .i64 i)), (4, .box (csw y)), (5, .v (.bool (decide (y.c.last = 1 ∨ y.c.last = 2)))), (23, .v (.slice x.cd.a x.xs.length x.cd.cap)), (24, .v (.int .i64 x.xs.length)), (25, .v (.int .i64 i))]) (fun _ => [ro m]) (fun _ => True) ?_ (fun _ _ => ?_)
    · repeat' (first
        | (refine k_L ?_; first | (refine k_ad ?_; refine g_ad rfl rfl ?_) | (refine k_su ?_; refine g_su rfl rfl ?_) | (refine k_ml ?_; refine g_ml rfl rfl ?_) | refine a_p rfl ?_ | (refine k_g ?_; first | refine a_gy rfl rfl ?_ | refine a_gn rfl rfl ?_ | refine a_gu rfl ?_ | (refine a_gd rfl (fun hb => ?_) (fun hb => ?_) <;> try (exfalso; omega)) | (refine a_ge rfl (fun hb => ?_) (fun hb => ?_) <;> try (exfalso; omega)) | (refine a_gne rfl (fun hb => ?_) (fun hb => ?_) <;> try (exfalso; omega)) | (refine a_gnd rfl (fun hb => ?_) (fun hb => ?_) <;> try (exfalso; omega))) | (refine k_l ?_; first | refine g_l rfl ?_) | (refine k_i ?_; refine g_i rfl rfl ?_) | (refine k_ls ?_; refine g_ls rfl ?_) | (refine k_st ?_; first | refine g_st rfl rfl rfl rfl ?_ | refine g_sw rfl rfl rfl rfl (Nat.le_of_ble_eq_true rfl) ?_) | (refine k_al ?_; refine a_al ?_) | (refine k_bx ?_; refine a_bx rfl rfl ?_) | (refine k_bl ?_; refine a_bl rfl ?_) | (refine k_p ?_; first | (refine a_pd rfl (fun hb => ?_) (fun hb => ?_) <;> try (exfalso; omega)) | (refine a_pe rfl (fun hb => ?_) (fun hb => ?_) <;> try (exfalso; omega)) | (refine a_pne rfl (fun hb => ?_) (fun hb => ?_) <;> try (exfalso; omega)) | (refine a_pnd rfl (fun hb => ?_) (fun hb => ?_) <;> try (exfalso; omega))))
        | refine a_n ?_
        | (refine k_V ?_; first | refine v_rv ?_ | refine v_seq ?_ | refine v_reg ?_ | refine v_dreg ?_ | refine v_zreg ?_ | refine v_bs ?_ | refine v_br ?_ | refine v_bd ?_ | refine v_bc ?_ | refine v_bk ?_ | refine v_bb ?_ | refine v_ret ?_ | refine v_exit ?_ | refine v_skip ?_ | refine v_ct rfl ?_ | refine v_cf rfl ?_ | (refine v_cd rfl (fun hb => ?_) (fun hb => ?_) <;> try (exfalso; omega)) | (refine v_ce rfl (fun hb => ?_) (fun hb => ?_) <;> try (exfalso; omega)) | (refine v_cn rfl (fun hb => ?_) (fun hb => ?_) <;> try (exfalso; omega)) | (refine v_cnd rfl (fun hb => ?_) (fun hb => ?_) <;> try (exfalso; omega)))
        | refine s_n ?_
        | refine s_r ?_
        | refine s_e ?_
        | refine b_n ?_
        | refine b_r ?_
        | refine b_e ?_
        | refine b_o rfl ?_
        | refine r_rt ?_
        | refine r_bk rfl ?_
        | refine r_ex rfl rfl ?_
        | refine sk_zero ?_
        | refine sk_succ ?_
        | refine wk_nil ?_
        | refine wk_cons ?_)
      all_goals refine j_i () trivial (hl := ⟨rfl, rfl, rfl, ?_, rfl, rfl, rfl, trivial⟩)
      all_goals (show SV.v (.bool _) = _; congr 1; refine bool_d ?_; simp_all)
    refine g_cut (fun _ : Unit => [(0, .v (ptr a)), (3, .v (.int .i64 i)), (4, .box (csw y)), (23, .v (.slice x.cd.a x.xs.length x.cd.cap)), (24, .v (.int .i64 x.xs.length)), (25, .v (.int .i64 i))]) (fun _ => [ro m]) (fun _ => Root y.c → y.c.color = 0 → x.hdr.phase ≠ 2 ∧ x.hdr.hand ≤ i) ?_ (fun _ hr => ?_)
    · repeat' (first
        | (refine k_L ?_; first | (refine k_ad ?_; refine g_ad rfl rfl ?_) | (refine k_su ?_; refine g_su rfl rfl ?_) | (refine k_ml ?_; refine g_ml rfl rfl ?_) | refine a_p rfl ?_ | (refine k_g ?_; first | refine a_gy rfl rfl ?_ | refine a_gn rfl rfl ?_ | refine a_gu rfl ?_ | (refine a_gd rfl (fun hb => ?_) (fun hb => ?_) <;> try (exfalso; omega)) | (refine a_ge rfl (fun hb => ?_) (fun hb => ?_) <;> try (exfalso; omega)) | (refine a_gne rfl (fun hb => ?_) (fun hb => ?_) <;> try (exfalso; omega)) | (refine a_gnd rfl (fun hb => ?_) (fun hb => ?_) <;> try (exfalso; omega))) | (refine k_l ?_; first | refine g_l rfl ?_) | (refine k_i ?_; refine g_i rfl rfl ?_) | (refine k_ls ?_; refine g_ls rfl ?_) | (refine k_st ?_; first | refine g_st rfl rfl rfl rfl ?_ | refine g_sw rfl rfl rfl rfl (Nat.le_of_ble_eq_true rfl) ?_) | (refine k_al ?_; refine a_al ?_) | (refine k_bx ?_; refine a_bx rfl rfl ?_) | (refine k_bl ?_; refine a_bl rfl ?_) | (refine k_p ?_; first | (refine a_pd rfl (fun hb => ?_) (fun hb => ?_) <;> try (exfalso; omega)) | (refine a_pe rfl (fun hb => ?_) (fun hb => ?_) <;> try (exfalso; omega)) | (refine a_pne rfl (fun hb => ?_) (fun hb => ?_) <;> try (exfalso; omega)) | (refine a_pnd rfl (fun hb => ?_) (fun hb => ?_) <;> try (exfalso; omega))))
        | refine a_n ?_
        | (refine k_V ?_; first | refine v_rv ?_ | refine v_seq ?_ | refine v_reg ?_ | refine v_dreg ?_ | refine v_zreg ?_ | refine v_bs ?_ | refine v_br ?_ | refine v_bd ?_ | refine v_bc ?_ | refine v_bk ?_ | refine v_bb ?_ | refine v_ret ?_ | refine v_exit ?_ | refine v_skip ?_ | refine v_ct rfl ?_ | refine v_cf rfl ?_ | (refine v_cd rfl (fun hb => ?_) (fun hb => ?_) <;> try (exfalso; omega)) | (refine v_ce rfl (fun hb => ?_) (fun hb => ?_) <;> try (exfalso; omega)) | (refine v_cn rfl (fun hb => ?_) (fun hb => ?_) <;> try (exfalso; omega)) | (refine v_cnd rfl (fun hb => ?_) (fun hb => ?_) <;> try (exfalso; omega)))
        | refine s_n ?_
        | refine s_r ?_
        | refine s_e ?_
        | refine b_n ?_
        | refine b_r ?_
        | refine b_e ?_
        | refine b_o rfl ?_
        | refine r_rt ?_
        | refine r_bk rfl ?_
        | refine r_ex rfl rfl ?_
        | refine sk_zero ?_
        | refine sk_succ ?_
        | refine wk_nil ?_
        | refine wk_cons ?_)
      · exact q_F fun h7 => absurd ‹x.hdr.phase = 2› ((h7 ‹_› i _ gc).1 (hroot ‹_›) ‹_›).1
      · exact q_F fun h7 => absurd ((h7 ‹_› i _ gc).1 (hroot ‹_›) ‹_›).2 (by show ¬ x.hdr.hand ≤ _; omega)
      all_goals refine j_i () (fun r1 r2 => ?_)
      · exact ⟨‹_›, by omega⟩
      all_goals first | exact absurd r1.2 ‹_› | exact absurd r2 ‹_›
    refine v_seq ?_
    repeat' (first
      | (refine k_L ?_; first | (refine k_ad ?_; refine g_ad rfl rfl ?_) | (refine k_su ?_; refine g_su rfl rfl ?_) | (refine k_ml ?_; refine g_ml rfl rfl ?_) | refine a_p rfl ?_ | (refine k_g ?_; first | refine a_gy rfl rfl ?_ | refine a_gn rfl rfl ?_ | refine a_gu rfl ?_ | (refine a_gd rfl (fun hb => ?_) (fun hb => ?_) <;> try (exfalso; omega)) | (refine a_ge rfl (fun hb => ?_) (fun hb => ?_) <;> try (exfalso; omega)) | (refine a_gne rfl (fun hb => ?_) (fun hb => ?_) <;> try (exfalso; omega)) | (refine a_gnd rfl (fun hb => ?_) (fun hb => ?_) <;> try (exfalso; omega))) | (refine k_l ?_; first | refine g_l rfl ?_) | (refine k_i ?_; refine g_i rfl rfl ?_) | (refine k_ls ?_; refine g_ls rfl ?_) | (refine k_st ?_; first | refine g_st rfl rfl rfl rfl ?_ | refine g_sw rfl rfl rfl rfl (Nat.le_of_ble_eq_true rfl) ?_) | (refine k_al ?_; refine a_al ?_) | (refine k_bx ?_; refine a_bx rfl rfl ?_) | (refine k_bl ?_; refine a_bl rfl ?_) | (refine k_p ?_; first | (refine a_pd rfl (fun hb => ?_) (fun hb => ?_) <;> try (exfalso; omega)) | (refine a_pe rfl (fun hb => ?_) (fun hb => ?_) <;> try (exfalso; omega)) | (refine a_pne rfl (fun hb => ?_) (fun hb => ?_) <;> try (exfalso; omega)) | (refine a_pnd rfl (fun hb => ?_) (fun hb => ?_) <;> try (exfalso; omega))))
      | refine a_n ?_
      | (refine k_V ?_; first | refine v_rv ?_ | refine v_reg ?_ | refine v_dreg ?_ | refine v_zreg ?_ | refine v_bs ?_ | refine v_br ?_ | refine v_bd ?_ | refine v_bc ?_ | refine v_bk ?_ | refine v_bb ?_ | refine v_ret ?_ | refine v_exit ?_ | refine v_skip ?_ | refine v_ct rfl ?_ | refine v_cf rfl ?_ | (refine v_cd rfl (fun hb => ?_) (fun hb => ?_) <;> try (exfalso; omega)) | (refine v_ce rfl (fun hb => ?_) (fun hb => ?_) <;> try (exfalso; omega)) | (refine v_cn rfl (fun hb => ?_) (fun hb => ?_) <;> try (exfalso; omega)) | (refine v_cnd rfl (fun hb => ?_) (fun hb => ?_) <;> try (exfalso; omega)))
      | refine s_n ?_
      | refine s_r ?_
      | refine s_e ?_
      | refine b_n ?_
      | refine b_r ?_
      | refine b_e ?_
      | refine b_o rfl ?_
      | refine r_rt ?_
      | refine r_bk rfl ?_
      | refine r_ex rfl rfl ?_
      | refine sk_zero ?_
      | refine sk_succ ?_
      | refine wk_nil ?_
      | refine wk_cons ?_)
    refine g_cut (fun n : Int => [(0, .v (ptr a)), (4, .box (csw y)), (6, .v (.int .i64 n)), (23, .v (.slice x.cd.a x.xs.length x.cd.cap)), (24, .v (.int .i64 x.xs.length)), (25, .v (.int .i64 i))]) (fun _ => [ro m]) (fun n => n = scanned x.H i y.c) ?_ (fun n hn => ?_)
    · rw [← hsc]
      rcases g0 with ⟨g, g0, g1⟩ | ⟨g0, g1⟩
      · have hlg := (List.getElem?_eq_some_iff.1 g0).1
        have hlg2 : (0 : Int) < x.hdr.ng := by rw [hng]; have : (0 : Int).toNat = 0 := rfl; omega
        repeat' (first
          | (refine k_L ?_; first | (refine k_ad ?_; refine g_ad rfl rfl ?_) | (refine k_su ?_; refine g_su rfl rfl ?_) | (refine k_ml ?_; refine g_ml rfl rfl ?_) | refine a_p rfl ?_ | (refine k_g ?_; first | refine a_gy rfl rfl ?_ | refine a_gn rfl rfl ?_ | refine a_gu rfl ?_ | (refine a_gd rfl (fun hb => ?_) (fun hb => ?_) <;> try (exfalso; omega)) | (refine a_ge rfl (fun hb => ?_) (fun hb => ?_) <;> try (exfalso; omega)) | (refine a_gne rfl (fun hb => ?_) (fun hb => ?_) <;> try (exfalso; omega)) | (refine a_gnd rfl (fun hb => ?_) (fun hb => ?_) <;> try (exfalso; omega))) | (refine k_l ?_; first | refine g_l rfl ?_) | (refine k_i ?_; refine g_i rfl rfl ?_) | (refine k_ls ?_; refine g_ls rfl ?_) | (refine k_st ?_; first | refine g_st rfl rfl rfl rfl ?_ | refine g_sw rfl rfl rfl rfl (Nat.le_of_ble_eq_true rfl) ?_) | (refine k_al ?_; refine a_al ?_) | (refine k_bx ?_; refine a_bx rfl rfl ?_) | (refine k_bl ?_; refine a_bl rfl ?_) | (refine k_p ?_; first | (refine a_pd rfl (fun hb => ?_) (fun hb => ?_) <;> try (exfalso; omega)) | (refine a_pe rfl (fun hb => ?_) (fun hb => ?_) <;> try (exfalso; omega)) | (refine a_pne rfl (fun hb => ?_) (fun hb => ?_) <;> try (exfalso; omega)) | (refine a_pnd rfl (fun hb => ?_) (fun hb => ?_) <;> try (exfalso; omega))))
          | refine a_n ?_
          | (refine k_V ?_; first | refine v_rv ?_ | refine v_seq ?_ | refine v_reg ?_ | refine v_dreg ?_ | refine v_zreg ?_ | refine v_bs ?_ | refine v_br ?_ | refine v_bd ?_ | refine v_bc ?_ | refine v_bk ?_ | refine v_bb ?_ | refine v_ret ?_ | refine v_exit ?_ | refine v_skip ?_ | refine v_ct rfl ?_ | refine v_cf rfl ?_ | (refine v_cd rfl (fun hb => ?_) (fun hb => ?_) <;> try (exfalso; omega)) | (refine v_ce rfl (fun hb => ?_) (fun hb => ?_) <;> try (exfalso; omega)) | (refine v_cn rfl (fun hb => ?_) (fun hb => ?_) <;> try (exfalso; omega)) | (refine v_cnd rfl (fun hb => ?_) (fun hb => ?_) <;> try (exfalso; omega)))
          | refine s_n ?_
          | refine s_r ?_
          | refine s_e ?_
          | refine b_n ?_
          | refine b_r ?_
          | refine b_e ?_
          | refine b_o rfl ?_
          | refine r_rt ?_
          | refine r_bk rfl ?_
          | refine r_ex rfl rfl ?_
          | refine sk_zero ?_
          | refine sk_succ ?_
          | refine wk_nil ?_
          | refine wk_cons ?_)
        all_goals refine j_i _ ?_
        all_goals simp_all
      · repeat' (first
          | (refine k_L ?_; first | (refine k_ad ?_; refine g_ad rfl rfl ?_) | (refine k_su ?_; refine g_su rfl rfl ?_) | (refine k_ml ?_; refine g_ml rfl rfl ?_) | refine a_p rfl ?_ | (refine k_g ?_; first | refine a_gy rfl rfl ?_ | refine a_gn rfl rfl ?_ | refine a_gu rfl ?_ | (refine a_gd rfl (fun hb => ?_) (fun hb => ?_) <;> try (exfalso; omega)) | (refine a_ge rfl (fun hb => ?_) (fun hb => ?_) <;> try (exfalso; omega)) | (refine a_gne rfl (fun hb => ?_) (fun hb => ?_) <;> try (exfalso; omega)) | (refine a_gnd rfl (fun hb => ?_) (fun hb => ?_) <;> try (exfalso; omega))) | (refine k_l ?_; first | refine g_l rfl ?_) | (refine k_i ?_; refine g_i rfl rfl ?_) | (refine k_ls ?_; refine g_ls rfl ?_) | (refine k_st ?_; first | refine g_st rfl rfl rfl rfl ?_ | refine g_sw rfl rfl rfl rfl (Nat.le_of_ble_eq_true rfl) ?_) | (refine k_al ?_; refine a_al ?_) | (refine k_bx ?_; refine a_bx rfl rfl ?_) | (refine k_bl ?_; refine a_bl rfl ?_) | (refine k_p ?_; first | (refine a_pd rfl (fun hb => ?_) (fun hb => ?_) <;> try (exfalso; omega)) | (refine a_pe rfl (fun hb => ?_) (fun hb => ?_) <;> try (exfalso; omega)) | (refine a_pne rfl (fun hb => ?_) (fun hb => ?_) <;> try (exfalso; omega)) | (refine a_pnd rfl (fun hb => ?_) (fun hb => ?_) <;> try (exfalso; omega))))
          | refine a_n ?_
          | (refine k_V ?_; first | refine v_rv ?_ | refine v_seq ?_ | refine v_reg ?_ | refine v_dreg ?_ | refine v_zreg ?_ | refine v_bs ?_ | refine v_br ?_ | refine v_bd ?_ | refine v_bc ?_ | refine v_bk ?_ | refine v_bb ?_ | refine v_ret ?_ | refine v_exit ?_ | refine v_skip ?_ | refine v_ct rfl ?_ | refine v_cf rfl ?_ | (refine v_cd rfl (fun hb => ?_) (fun hb => ?_) <;> try (exfalso; omega)) | (refine v_ce rfl (fun hb => ?_) (fun hb => ?_) <;> try (exfalso; omega)) | (refine v_cn rfl (fun hb => ?_) (fun hb => ?_) <;> try (exfalso; omega)) | (refine v_cnd rfl (fun hb => ?_) (fun hb => ?_) <;> try (exfalso; omega)))
          | refine s_n ?_
          | refine s_r ?_
          | refine s_e ?_
          | refine b_n ?_
          | refine b_r ?_
          | refine b_e ?_
          | refine b_o rfl ?_
          | refine r_rt ?_
          | refine r_bk rfl ?_
          | refine r_ex rfl rfl ?_
          | refine sk_zero ?_
          | refine sk_succ ?_
          | refine wk_nil ?_
          | refine wk_cons ?_)
        all_goals refine j_i _ ?_
        all_goals simp_all
    have hn0 : 0 ≤ n ∧ n ≤ y.c.pairs.length := by rw [hn]; exact scanned_le h1 h6 gc
    refine v_seq ?_
    repeat' (first
      | (refine k_L ?_; first | (refine k_ad ?_; refine g_ad rfl rfl ?_) | (refine k_su ?_; refine g_su rfl rfl ?_) | (refine k_ml ?_; refine g_ml rfl rfl ?_) | refine a_p rfl ?_ | (refine k_g ?_; first | refine a_gy rfl rfl ?_ | refine a_gn rfl rfl ?_ | refine a_gu rfl ?_ | (refine a_gd rfl (fun hb => ?_) (fun hb => ?_) <;> try (exfalso; omega)) | (refine a_ge rfl (fun hb => ?_) (fun hb => ?_) <;> try (exfalso; omega)) | (refine a_gne rfl (fun hb => ?_) (fun hb => ?_) <;> try (exfalso; omega)) | (refine a_gnd rfl (fun hb => ?_) (fun hb => ?_) <;> try (exfalso; omega))) | (refine k_l ?_; first | refine g_l rfl ?_) | (refine k_i ?_; refine g_i rfl rfl ?_) | (refine k_ls ?_; refine g_ls rfl ?_) | (refine k_st ?_; first | refine g_st rfl rfl rfl rfl ?_ | refine g_sw rfl rfl rfl rfl (Nat.le_of_ble_eq_true rfl) ?_) | (refine k_al ?_; refine a_al ?_) | (refine k_bx ?_; refine a_bx rfl rfl ?_) | (refine k_bl ?_; refine a_bl rfl ?_) | (refine k_p ?_; first | (refine a_pd rfl (fun hb => ?_) (fun hb => ?_) <;> try (exfalso; omega)) | (refine a_pe rfl (fun hb => ?_) (fun hb => ?_) <;> try (exfalso; omega)) | (refine a_pne rfl (fun hb => ?_) (fun hb => ?_) <;> try (exfalso; omega)) | (refine a_pnd rfl (fun hb => ?_) (fun hb => ?_) <;> try (exfalso; omega))))
      | refine a_n ?_
      | (refine k_V ?_; first | refine v_rv ?_ | refine v_reg ?_ | refine v_dreg ?_ | refine v_zreg ?_ | refine v_bs ?_ | refine v_br ?_ | refine v_bd ?_ | refine v_bc ?_ | refine v_bk ?_ | refine v_bb ?_ | refine v_ret ?_ | refine v_exit ?_ | refine v_skip ?_ | refine v_ct rfl ?_ | refine v_cf rfl ?_ | (refine v_cd rfl (fun hb => ?_) (fun hb => ?_) <;> try (exfalso; omega)) | (refine v_ce rfl (fun hb => ?_) (fun hb => ?_) <;> try (exfalso; omega)) | (refine v_cn rfl (fun hb => ?_) (fun hb => ?_) <;> try (exfalso; omega)) | (refine v_cnd rfl (fun hb => ?_) (fun hb => ?_) <;> try (exfalso; omega)))
      | refine s_n ?_
      | refine s_r ?_
      | refine s_e ?_
      | refine b_n ?_
      | refine b_r ?_
      | refine b_e ?_
      | refine b_o rfl ?_
      | refine r_rt ?_
      | refine r_bk rfl ?_
      | refine r_ex rfl rfl ?_
      | refine sk_zero ?_
      | refine sk_succ ?_
      | refine wk_nil ?_
      | refine wk_cons ?_)
    refine v_blk ?_
    refine v_loop (fun k : Nat => [(0, .v (ptr a)), (4, .box (csw y)), (6, .v (.int .i64 n)), (7, .v (.int .i64 k)), (23, .v (.slice x.cd.a x.xs.length x.cd.cap)), (24, .v (.int .i64 x.xs.length)), (25, .v (.int .i64 i))]) (fun _ => [ro m])
      (fun f k => f = n.toNat - k ∧ (k : Int) ≤ n ∧ ∀ (j : Nat) p, j < k → y.c.pairs[j]? = some p → ¬ White x.H p.key ∧ ¬ White x.H p.val) ⟨_, 0, ⟨rfl, rfl, rfl, rfl, rfl, rfl, rfl, trivial⟩, Ent.refl _, rfl, by omega, fun j c hj => by omega⟩ ?_
    rintro f k ⟨rfl, hk, hw⟩
    by_cases hkt : (k : Int) < n
    · obtain ⟨p, gp⟩ : ∃ p, y.c.pairs[k]? = some p := ⟨_, List.getElem?_eq_getElem (by omega)⟩
      obtain ⟨f1, f2, _⟩ := h4.pairs i _ gc k p gp
      repeat' (first
        | (refine k_L ?_; first | (refine k_ad ?_; refine g_ad rfl rfl ?_) | (refine k_su ?_; refine g_su rfl rfl ?_) | (refine k_ml ?_; refine g_ml rfl rfl ?_) | refine a_p rfl ?_ | (refine k_g ?_; first | refine a_gy rfl rfl ?_ | refine a_gn rfl rfl ?_ | refine a_gu rfl ?_ | (refine a_gd rfl (fun hb => ?_) (fun hb => ?_) <;> try (exfalso; omega)) | (refine a_ge rfl (fun hb => ?_) (fun hb => ?_) <;> try (exfalso; omega)) | (refine a_gne rfl (fun hb => ?_) (fun hb => ?_) <;> try (exfalso; omega)) | (refine a_gnd rfl (fun hb => ?_) (fun hb => ?_) <;> try (exfalso; omega))) | (refine k_l ?_; first | refine g_l rfl ?_) | (refine k_i ?_; refine g_i rfl rfl ?_) | (refine k_ls ?_; refine g_ls rfl ?_) | (refine k_st ?_; first | refine g_st rfl rfl rfl rfl ?_ | refine g_sw rfl rfl rfl rfl (Nat.le_of_ble_eq_true rfl) ?_) | (refine k_al ?_; refine a_al ?_) | (refine k_bx ?_; refine a_bx rfl rfl ?_) | (refine k_bl ?_; refine a_bl rfl ?_) | (refine k_q ?_; first | refine a_q rfl (fun m hm => l1white_q (w := p.key) (has_g h hm) f1) ?_ | refine a_q rfl (fun m hm => l1white_q (w := p.val) (has_g h hm) f2) ?_) | (refine k_c ?_; first | refine a_cq rfl (fun m hm => l1white_q (w := p.key) (has_g h hm) f1) ?_ | refine a_cq rfl (fun m hm => l1white_q (w := p.val) (has_g h hm) f2) ?_) | (refine k_p ?_; first | (refine a_pd rfl (fun hb => ?_) (fun hb => ?_) <;> try (exfalso; omega)) | (refine a_pe rfl (fun hb => ?_) (fun hb => ?_) <;> try (exfalso; omega)) | (refine a_pne rfl (fun hb => ?_) (fun hb => ?_) <;> try (exfalso; omega)) | (refine a_pnd rfl (fun hb => ?_) (fun hb => ?_) <;> try (exfalso; omega))))
        | refine a_n ?_
        | (refine k_V ?_; first | refine v_rv ?_ | refine v_seq ?_ | refine v_reg ?_ | refine v_dreg ?_ | refine v_zreg ?_ | refine v_bs ?_ | refine v_br ?_ | refine v_bd ?_ | refine v_bc ?_ | refine v_bk ?_ | refine v_bb ?_ | refine v_ret ?_ | refine v_exit ?_ | refine v_skip ?_ | refine v_ct rfl ?_ | refine v_cf rfl ?_ | (refine v_cd rfl (fun hb => ?_) (fun hb => ?_) <;> try (exfalso; omega)) | (refine v_ce rfl (fun hb => ?_) (fun hb => ?_) <;> try (exfalso; omega)) | (refine v_cn rfl (fun hb => ?_) (fun hb => ?_) <;> try (exfalso; omega)) | (refine v_cnd rfl (fun hb => ?_) (fun hb => ?_) <;> try (exfalso; omega)))
        | refine s_n ?_
        | refine s_r ?_
        | refine s_e ?_
        | refine b_n ?_
        | refine b_r ?_
        | refine b_e ?_
        | refine b_o rfl ?_
        | refine r_rt ?_
        | refine r_bk rfl ?_
        | refine r_ex rfl rfl ?_
        | refine sk_zero ?_
        | refine sk_succ ?_
        | refine wk_nil ?_
        | refine wk_cons ?_)
      · exact q_F fun h7 => ((h7 hmk i _ gc).2 k p gp (by rw [← hn]; omega)).1 ‹_›
      · exact q_F fun h7 => ((h7 hmk i _ gc).2 k p gp (by rw [← hn]; omega)).2 ‹_›
      · refine ⟨_, k + 1, ?_, ⟨rfl, rfl, rfl, rfl, rfl, rfl, rfl, trivial⟩, Ent.refl _, rfl, by omega, fun j q hj hq => ?_⟩
        · omega
        · by_cases e : j = k
          · subst e; rw [gp] at hq; cases hq; exact ⟨‹_›, ‹_›⟩
          · exact hw j q (by omega) hq
    · repeat' (first
        | (refine k_L ?_; first | (refine k_ad ?_; refine g_ad rfl rfl ?_) | (refine k_su ?_; refine g_su rfl rfl ?_) | (refine k_ml ?_; refine g_ml rfl rfl ?_) | refine a_p rfl ?_ | (refine k_g ?_; first | refine a_gy rfl rfl ?_ | refine a_gn rfl rfl ?_ | refine a_gu rfl ?_ | (refine a_gd rfl (fun hb => ?_) (fun hb => ?_) <;> try (exfalso; omega)) | (refine a_ge rfl (fun hb => ?_) (fun hb => ?_) <;> try (exfalso; omega)) | (refine a_gne rfl (fun hb => ?_) (fun hb => ?_) <;> try (exfalso; omega)) | (refine a_gnd rfl (fun hb => ?_) (fun hb => ?_) <;> try (exfalso; omega))) | (refine k_l ?_; first | refine g_l rfl ?_) | (refine k_i ?_; refine g_i rfl rfl ?_) | (refine k_ls ?_; refine g_ls rfl ?_) | (refine k_st ?_; first | refine g_st rfl rfl rfl rfl ?_ | refine g_sw rfl rfl rfl rfl (Nat.le_of_ble_eq_true rfl) ?_) | (refine k_al ?_; refine a_al ?_) | (refine k_bx ?_; refine a_bx rfl rfl ?_) | (refine k_bl ?_; refine a_bl rfl ?_) | (refine k_p ?_; first | (refine a_pd rfl (fun hb => ?_) (fun hb => ?_) <;> try (exfalso; omega)) | (refine a_pe rfl (fun hb => ?_) (fun hb => ?_) <;> try (exfalso; omega)) | (refine a_pne rfl (fun hb => ?_) (fun hb => ?_) <;> try (exfalso; omega)) | (refine a_pnd rfl (fun hb => ?_) (fun hb => ?_) <;> try (exfalso; omega))))
        | refine a_n ?_
        | (refine k_V ?_; first | refine v_rv ?_ | refine v_seq ?_ | refine v_reg ?_ | refine v_dreg ?_ | refine v_zreg ?_ | refine v_bs ?_ | refine v_br ?_ | refine v_bd ?_ | refine v_bc ?_ | refine v_bk ?_ | refine v_bb ?_ | refine v_ret ?_ | refine v_exit ?_ | refine v_skip ?_ | refine v_ct rfl ?_ | refine v_cf rfl ?_ | (refine v_cd rfl (fun hb => ?_) (fun hb => ?_) <;> try (exfalso; omega)) | (refine v_ce rfl (fun hb => ?_) (fun hb => ?_) <;> try (exfalso; omega)) | (refine v_cn rfl (fun hb => ?_) (fun hb => ?_) <;> try (exfalso; omega)) | (refine v_cnd rfl (fun hb => ?_) (fun hb => ?_) <;> try (exfalso; omega)))
        | refine s_n ?_
        | refine s_r ?_
        | refine s_e ?_
        | refine b_n ?_
        | refine b_r ?_
        | refine b_e ?_
        | refine b_o rfl ?_
        | refine r_rt ?_
        | refine r_bk rfl ?_
        | refine r_ex rfl rfl ?_
        | refine sk_zero ?_
        | refine sk_succ ?_
        | refine wk_nil ?_
        | refine wk_cons ?_)
      refine r_nx () (fun j c hj hc => ?_)
      by_cases e : j = i
      · subst e; rw [gc] at hc; cases hc
        exact ⟨hr, fun k' p gp hk' => hw k' p (by rw [← hn] at hk'; omega) gp⟩
      · exact hv j c (by omega) hc
  · repeat' (first
      | (refine k_L ?_; first | (refine k_ad ?_; refine g_ad rfl rfl ?_) | (refine k_su ?_; refine g_su rfl rfl ?_) | (refine k_ml ?_; refine g_ml rfl rfl ?_) | refine a_p rfl ?_ | (refine k_g ?_; first | refine a_gy rfl rfl ?_ | refine a_gn rfl rfl ?_ | refine a_gu rfl ?_ | (refine a_gd rfl (fun hb => ?_) (fun hb => ?_) <;> try (exfalso; omega)) | (refine a_ge rfl (fun hb => ?_) (fun hb => ?_) <;> try (exfalso; omega)) | (refine a_gne rfl (fun hb => ?_) (fun hb => ?_) <;> try (exfalso; omega)) | (refine a_gnd rfl (fun hb => ?_) (fun hb => ?_) <;> try (exfalso; omega))) | (refine k_l ?_; first | refine g_l rfl ?_) | (refine k_i ?_; refine g_i rfl rfl ?_) | (refine k_ls ?_; refine g_ls rfl ?_) | (refine k_st ?_; first | refine g_st rfl rfl rfl rfl ?_ | refine g_sw rfl rfl rfl rfl (Nat.le_of_ble_eq_true rfl) ?_) | (refine k_al ?_; refine a_al ?_) | (refine k_bx ?_; refine a_bx rfl rfl ?_) | (refine k_bl ?_; refine a_bl rfl ?_) | (refine k_p ?_; first | (refine a_pd rfl (fun hb => ?_) (fun hb => ?_) <;> try (exfalso; omega)) | (refine a_pe rfl (fun hb => ?_) (fun hb => ?_) <;> try (exfalso; omega)) | (refine a_pne rfl (fun hb => ?_) (fun hb => ?_) <;> try (exfalso; omega)) | (refine a_pnd rfl (fun hb => ?_) (fun hb => ?_) <;> try (exfalso; omega))))
      | refine a_n ?_
      | (refine k_V ?_; first | refine v_rv ?_ | refine v_seq ?_ | refine v_reg ?_ | refine v_dreg ?_ | refine v_zreg ?_ | refine v_bs ?_ | refine v_br ?_ | refine v_bd ?_ | refine v_bc ?_ | refine v_bk ?_ | refine v_bb ?_ | refine v_ret ?_ | refine v_exit ?_ | refine v_skip ?_ | refine v_ct rfl ?_ | refine v_cf rfl ?_ | (refine v_cd rfl (fun hb => ?_) (fun hb => ?_) <;> try (exfalso; omega)) | (refine v_ce rfl (fun hb => ?_) (fun hb => ?_) <;> try (exfalso; omega)) | (refine v_cn rfl (fun hb => ?_) (fun hb => ?_) <;> try (exfalso; omega)) | (refine v_cnd rfl (fun hb => ?_) (fun hb => ?_) <;> try (exfalso; omega)))
      | refine s_n ?_
      | refine s_r ?_
      | refine s_e ?_
      | refine b_n ?_
      | refine b_r ?_
      | refine b_e ?_
      | refine b_o rfl ?_
      | refine r_rt ?_
      | refine r_bk rfl ?_
      | refine r_ex rfl rfl ?_
      | refine sk_zero ?_
      | refine sk_succ ?_
      | refine wk_nil ?_
      | refine wk_cons ?_)
    exact q_T fun hm i c hc => hv i c (by have := (List.getElem?_eq_some_iff.1 hc).1; omega) hc
end Go.Proofs.Ytcmllambknfleaa.E
/- HeapOk, the reference's. Conditions: none. -/
set_option linter.unusedVariables false
set_option linter.unusedSimpArgs false
set_option maxHeartbeats 8000000
set_option maxRecDepth 100000
namespace Go.Proofs.Ytcmllambknfleaa.E
open Go
open Classical
theorem specHeapOk_q {m : Mem} {x : HX} (h : Has m x.body) : Qt Try.prog 31 [x.v] m (.int .i64 (okH x.H)) := by
  refine qt_of (fnA_of (fun h => fn31 (by simp) h) ?_)
  refine v_seq (v_reg (a_nwh x rfl (fun b => ?_)))
  have hs : ∀ m', star [hdA b x.hdr, ro m] m' → Has m' (hp b x) := fun m' s => has_new h s (by (fail_if_success apply pm_bad); (repeat (first | exact pm_nil | (apply pm_cons; repeat (first | exact pk_h | apply pk_t)))); fail_if_success focus skip) (F := [])
  repeat' (first
    | (refine k_L ?_; first | (refine k_ad ?_; refine g_ad rfl rfl ?_) | (refine k_su ?_; refine g_su rfl rfl ?_) | (refine k_ml ?_; refine g_ml rfl rfl ?_) | refine a_p rfl ?_ | (refine k_g ?_; first | refine a_gy rfl rfl ?_ | refine a_gn rfl rfl ?_ | refine a_gu rfl ?_ | (refine a_gd rfl (fun hb => ?_) (fun hb => ?_) <;> try (exfalso; omega)) | (refine a_ge rfl (fun hb => ?_) (fun hb => ?_) <;> try (exfalso; omega)) | (refine a_gne rfl (fun hb => ?_) (fun hb => ?_) <;> try (exfalso; omega)) | (refine a_gnd rfl (fun hb => ?_) (fun hb => ?_) <;> try (exfalso; omega))) | (refine k_l ?_; first | refine g_l rfl ?_) | (refine k_i ?_; refine g_i rfl rfl ?_) | (refine k_ls ?_; refine g_ls rfl ?_) | (refine k_st ?_; first | refine g_st rfl rfl rfl rfl ?_ | refine g_sw rfl rfl rfl rfl (Nat.le_of_ble_eq_true rfl) ?_) | (refine k_al ?_; refine a_al ?_) | (refine k_bx ?_; refine a_bx rfl rfl ?_) | (refine k_bl ?_; refine a_bl rfl ?_) | (refine k_p ?_; first | (refine a_pd rfl (fun hb => ?_) (fun hb => ?_) <;> try (exfalso; omega)) | (refine a_pe rfl (fun hb => ?_) (fun hb => ?_) <;> try (exfalso; omega)) | (refine a_pne rfl (fun hb => ?_) (fun hb => ?_) <;> try (exfalso; omega)) | (refine a_pnd rfl (fun hb => ?_) (fun hb => ?_) <;> try (exfalso; omega))))
    | refine a_n ?_
    | (refine k_V ?_; first | refine v_rv ?_ | refine v_reg ?_ | refine v_dreg ?_ | refine v_zreg ?_ | refine v_bs ?_ | refine v_br ?_ | refine v_bd ?_ | refine v_bc ?_ | refine v_bk ?_ | refine v_bb ?_ | refine v_ret ?_ | refine v_exit ?_ | refine v_skip ?_ | refine v_ct rfl ?_ | refine v_cf rfl ?_ | (refine v_cd rfl (fun hb => ?_) (fun hb => ?_) <;> try (exfalso; omega)) | (refine v_ce rfl (fun hb => ?_) (fun hb => ?_) <;> try (exfalso; omega)) | (refine v_cn rfl (fun hb => ?_) (fun hb => ?_) <;> try (exfalso; omega)) | (refine v_cnd rfl (fun hb => ?_) (fun hb => ?_) <;> try (exfalso; omega)))
    | refine s_n ?_
    | refine s_r ?_
    | refine s_e ?_
    | refine b_n ?_
    | refine b_r ?_
    | refine b_e ?_
    | refine b_o rfl ?_
    | refine r_rt ?_
    | refine r_bk rfl ?_
    | refine r_ex rfl rfl ?_
    | refine sk_zero ?_
    | refine sk_succ ?_
    | refine wk_nil ?_
    | refine wk_cons ?_)
  refine v_seq ?_
  repeat' (first
    | (refine k_L ?_; first | (refine k_ad ?_; refine g_ad rfl rfl ?_) | (refine k_su ?_; refine g_su rfl rfl ?_) | (refine k_ml ?_; refine g_ml rfl rfl ?_) | refine a_p rfl ?_ | (refine k_g ?_; first | refine a_gy rfl rfl ?_ | refine a_gn rfl rfl ?_ | refine a_gu rfl ?_ | (refine a_gd rfl (fun hb => ?_) (fun hb => ?_) <;> try (exfalso; omega)) | (refine a_ge rfl (fun hb => ?_) (fun hb => ?_) <;> try (exfalso; omega)) | (refine a_gne rfl (fun hb => ?_) (fun hb => ?_) <;> try (exfalso; omega)) | (refine a_gnd rfl (fun hb => ?_) (fun hb => ?_) <;> try (exfalso; omega))) | (refine k_l ?_; first | refine g_l rfl ?_) | (refine k_i ?_; refine g_i rfl rfl ?_) | (refine k_ls ?_; refine g_ls rfl ?_) | (refine k_st ?_; first | refine g_st rfl rfl rfl rfl ?_ | refine g_sw rfl rfl rfl rfl (Nat.le_of_ble_eq_true rfl) ?_) | (refine k_al ?_; refine a_al ?_) | (refine k_bx ?_; refine a_bx rfl rfl ?_) | (refine k_bl ?_; refine a_bl rfl ?_) | (refine k_p ?_; first | (refine a_pd rfl (fun hb => ?_) (fun hb => ?_) <;> try (exfalso; omega)) | (refine a_pe rfl (fun hb => ?_) (fun hb => ?_) <;> try (exfalso; omega)) | (refine a_pne rfl (fun hb => ?_) (fun hb => ?_) <;> try (exfalso; omega)) | (refine a_pnd rfl (fun hb => ?_) (fun hb => ?_) <;> try (exfalso; omega))))
    | refine a_n ?_
    | (refine k_V ?_; first | refine v_rv ?_ | refine v_reg ?_ | refine v_dreg ?_ | refine v_zreg ?_ | refine v_bs ?_ | refine v_br ?_ | refine v_bd ?_ | refine v_bc ?_ | refine v_bk ?_ | refine v_bb ?_ | refine v_ret ?_ | refine v_exit ?_ | refine v_skip ?_ | refine v_ct rfl ?_ | refine v_cf rfl ?_ | (refine v_cd rfl (fun hb => ?_) (fun hb => ?_) <;> try (exfalso; omega)) | (refine v_ce rfl (fun hb => ?_) (fun hb => ?_) <;> try (exfalso; omega)) | (refine v_cn rfl (fun hb => ?_) (fun hb => ?_) <;> try (exfalso; omega)) | (refine v_cnd rfl (fun hb => ?_) (fun hb => ?_) <;> try (exfalso; omega)))
    | refine s_n ?_
    | refine s_r ?_
    | refine s_e ?_
    | refine b_n ?_
    | refine b_r ?_
    | refine b_e ?_
    | refine b_o rfl ?_
    | refine r_rt ?_
    | refine r_bk rfl ?_
    | refine r_ex rfl rfl ?_
    | refine sk_zero ?_
    | refine sk_succ ?_
    | refine wk_nil ?_
    | refine wk_cons ?_)
  refine g_cut (fun _ : Unit => [(1, .v (ptr b)), (3, .v (ptr b))]) (fun _ => [hdA b x.hdr, ro m]) (fun _ => R1 x.H) ?_ (fun _ h1 => ?_)
  · repeat' (first
      | (refine k_L ?_; first | (refine k_ad ?_; refine g_ad rfl rfl ?_) | (refine k_su ?_; refine g_su rfl rfl ?_) | (refine k_ml ?_; refine g_ml rfl rfl ?_) | refine a_p rfl ?_ | (refine k_g ?_; first | refine a_gy rfl rfl ?_ | refine a_gn rfl rfl ?_ | refine a_gu rfl ?_ | (refine a_gd rfl (fun hb => ?_) (fun hb => ?_) <;> try (exfalso; omega)) | (refine a_ge rfl (fun hb => ?_) (fun hb => ?_) <;> try (exfalso; omega)) | (refine a_gne rfl (fun hb => ?_) (fun hb => ?_) <;> try (exfalso; omega)) | (refine a_gnd rfl (fun hb => ?_) (fun hb => ?_) <;> try (exfalso; omega))) | (refine k_l ?_; first | refine g_l rfl ?_) | (refine k_i ?_; refine g_i rfl rfl ?_) | (refine k_ls ?_; refine g_ls rfl ?_) | (refine k_st ?_; first | refine g_st rfl rfl rfl rfl ?_ | refine g_sw rfl rfl rfl rfl (Nat.le_of_ble_eq_true rfl) ?_) | (refine k_al ?_; refine a_al ?_) | (refine k_bx ?_; refine a_bx rfl rfl ?_) | (refine k_bl ?_; refine a_bl rfl ?_) | (refine k_q ?_; first | refine a_q rfl (fun m hm => l1sizes_q (hs m hm)) ?_) | (refine k_c ?_; first | refine a_cq rfl (fun m hm => l1sizes_q (hs m hm)) ?_) | (refine k_p ?_; first | (refine a_pd rfl (fun hb => ?_) (fun hb => ?_) <;> try (exfalso; omega)) | (refine a_pe rfl (fun hb => ?_) (fun hb => ?_) <;> try (exfalso; omega)) | (refine a_pne rfl (fun hb => ?_) (fun hb => ?_) <;> try (exfalso; omega)) | (refine a_pnd rfl (fun hb => ?_) (fun hb => ?_) <;> try (exfalso; omega))))
      | refine a_n ?_
      | (refine k_V ?_; first | refine v_rv ?_ | refine v_seq ?_ | refine v_reg ?_ | refine v_dreg ?_ | refine v_zreg ?_ | refine v_bs ?_ | refine v_br ?_ | refine v_bd ?_ | refine v_bc ?_ | refine v_bk ?_ | refine v_bb ?_ | refine v_ret ?_ | refine v_exit ?_ | refine v_skip ?_ | refine v_ct rfl ?_ | refine v_cf rfl ?_ | (refine v_cd rfl (fun hb => ?_) (fun hb => ?_) <;> try (exfalso; omega)) | (refine v_ce rfl (fun hb => ?_) (fun hb => ?_) <;> try (exfalso; omega)) | (refine v_cn rfl (fun hb => ?_) (fun hb => ?_) <;> try (exfalso; omega)) | (refine v_cnd rfl (fun hb => ?_) (fun hb => ?_) <;> try (exfalso; omega)))
      | refine s_n ?_
      | refine s_r ?_
      | refine s_e ?_
      | refine b_n ?_
      | refine b_r ?_
      | refine b_e ?_
      | refine b_o rfl ?_
      | refine r_rt ?_
      | refine r_bk rfl ?_
      | refine r_ex rfl rfl ?_
      | refine sk_zero ?_
      | refine sk_succ ?_
      | refine wk_nil ?_
      | refine wk_cons ?_)
    · exact fa_q (by simp) (fun _ _ => rfl) (by unfold okH; simp_all)
    · exact j_i () ‹_›
  refine g_cut (fun _ : Unit => [(1, .v (ptr b)), (3, .v (ptr b))]) (fun _ => [hdA b x.hdr, ro m]) (fun _ => R2 x.H) ?_ (fun _ h2 => ?_)
  · repeat' (first
      | (refine k_L ?_; first | (refine k_ad ?_; refine g_ad rfl rfl ?_) | (refine k_su ?_; refine g_su rfl rfl ?_) | (refine k_ml ?_; refine g_ml rfl rfl ?_) | refine a_p rfl ?_ | (refine k_g ?_; first | refine a_gy rfl rfl ?_ | refine a_gn rfl rfl ?_ | refine a_gu rfl ?_ | (refine a_gd rfl (fun hb => ?_) (fun hb => ?_) <;> try (exfalso; omega)) | (refine a_ge rfl (fun hb => ?_) (fun hb => ?_) <;> try (exfalso; omega)) | (refine a_gne rfl (fun hb => ?_) (fun hb => ?_) <;> try (exfalso; omega)) | (refine a_gnd rfl (fun hb => ?_) (fun hb => ?_) <;> try (exfalso; omega))) | (refine k_l ?_; first | refine g_l rfl ?_) | (refine k_i ?_; refine g_i rfl rfl ?_) | (refine k_ls ?_; refine g_ls rfl ?_) | (refine k_st ?_; first | refine g_st rfl rfl rfl rfl ?_ | refine g_sw rfl rfl rfl rfl (Nat.le_of_ble_eq_true rfl) ?_) | (refine k_al ?_; refine a_al ?_) | (refine k_bx ?_; refine a_bx rfl rfl ?_) | (refine k_bl ?_; refine a_bl rfl ?_) | (refine k_q ?_; first | refine a_q rfl (fun m hm => l1cells_q (hs m hm)) ?_) | (refine k_c ?_; first | refine a_cq rfl (fun m hm => l1cells_q (hs m hm)) ?_) | (refine k_p ?_; first | (refine a_pd rfl (fun hb => ?_) (fun hb => ?_) <;> try (exfalso; omega)) | (refine a_pe rfl (fun hb => ?_) (fun hb => ?_) <;> try (exfalso; omega)) | (refine a_pne rfl (fun hb => ?_) (fun hb => ?_) <;> try (exfalso; omega)) | (refine a_pnd rfl (fun hb => ?_) (fun hb => ?_) <;> try (exfalso; omega))))
      | refine a_n ?_
      | (refine k_V ?_; first | refine v_rv ?_ | refine v_seq ?_ | refine v_reg ?_ | refine v_dreg ?_ | refine v_zreg ?_ | refine v_bs ?_ | refine v_br ?_ | refine v_bd ?_ | refine v_bc ?_ | refine v_bk ?_ | refine v_bb ?_ | refine v_ret ?_ | refine v_exit ?_ | refine v_skip ?_ | refine v_ct rfl ?_ | refine v_cf rfl ?_ | (refine v_cd rfl (fun hb => ?_) (fun hb => ?_) <;> try (exfalso; omega)) | (refine v_ce rfl (fun hb => ?_) (fun hb => ?_) <;> try (exfalso; omega)) | (refine v_cn rfl (fun hb => ?_) (fun hb => ?_) <;> try (exfalso; omega)) | (refine v_cnd rfl (fun hb => ?_) (fun hb => ?_) <;> try (exfalso; omega)))
      | refine s_n ?_
      | refine s_r ?_
      | refine s_e ?_
      | refine b_n ?_
      | refine b_r ?_
      | refine b_e ?_
      | refine b_o rfl ?_
      | refine r_rt ?_
      | refine r_bk rfl ?_
      | refine r_ex rfl rfl ?_
      | refine sk_zero ?_
      | refine sk_succ ?_
      | refine wk_nil ?_
      | refine wk_cons ?_)
    · exact fa_q (by simp) (fun _ _ => rfl) (by unfold okH; simp_all)
    · exact j_i () ‹_›
  refine g_cut (fun _ : Unit => [(1, .v (ptr b)), (3, .v (ptr b))]) (fun _ => [hdA b x.hdr, ro m]) (fun _ => R3 x.H) ?_ (fun _ h3 => ?_)
  · repeat' (first
      | (refine k_L ?_; first | (refine k_ad ?_; refine g_ad rfl rfl ?_) | (refine k_su ?_; refine g_su rfl rfl ?_) | (refine k_ml ?_; refine g_ml rfl rfl ?_) | refine a_p rfl ?_ | (refine k_g ?_; first | refine a_gy rfl rfl ?_ | refine a_gn rfl rfl ?_ | refine a_gu rfl ?_ | (refine a_gd rfl (fun hb => ?_) (fun hb => ?_) <;> try (exfalso; omega)) | (refine a_ge rfl (fun hb => ?_) (fun hb => ?_) <;> try (exfalso; omega)) | (refine a_gne rfl (fun hb => ?_) (fun hb => ?_) <;> try (exfalso; omega)) | (refine a_gnd rfl (fun hb => ?_) (fun hb => ?_) <;> try (exfalso; omega))) | (refine k_l ?_; first | refine g_l rfl ?_) | (refine k_i ?_; refine g_i rfl rfl ?_) | (refine k_ls ?_; refine g_ls rfl ?_) | (refine k_st ?_; first | refine g_st rfl rfl rfl rfl ?_ | refine g_sw rfl rfl rfl rfl (Nat.le_of_ble_eq_true rfl) ?_) | (refine k_al ?_; refine a_al ?_) | (refine k_bx ?_; refine a_bx rfl rfl ?_) | (refine k_bl ?_; refine a_bl rfl ?_) | (refine k_q ?_; first | refine a_q rfl (fun m hm => l1units_q (hs m hm) h1 h2) ?_) | (refine k_c ?_; first | refine a_cq rfl (fun m hm => l1units_q (hs m hm) h1 h2) ?_) | (refine k_p ?_; first | (refine a_pd rfl (fun hb => ?_) (fun hb => ?_) <;> try (exfalso; omega)) | (refine a_pe rfl (fun hb => ?_) (fun hb => ?_) <;> try (exfalso; omega)) | (refine a_pne rfl (fun hb => ?_) (fun hb => ?_) <;> try (exfalso; omega)) | (refine a_pnd rfl (fun hb => ?_) (fun hb => ?_) <;> try (exfalso; omega))))
      | refine a_n ?_
      | (refine k_V ?_; first | refine v_rv ?_ | refine v_seq ?_ | refine v_reg ?_ | refine v_dreg ?_ | refine v_zreg ?_ | refine v_bs ?_ | refine v_br ?_ | refine v_bd ?_ | refine v_bc ?_ | refine v_bk ?_ | refine v_bb ?_ | refine v_ret ?_ | refine v_exit ?_ | refine v_skip ?_ | refine v_ct rfl ?_ | refine v_cf rfl ?_ | (refine v_cd rfl (fun hb => ?_) (fun hb => ?_) <;> try (exfalso; omega)) | (refine v_ce rfl (fun hb => ?_) (fun hb => ?_) <;> try (exfalso; omega)) | (refine v_cn rfl (fun hb => ?_) (fun hb => ?_) <;> try (exfalso; omega)) | (refine v_cnd rfl (fun hb => ?_) (fun hb => ?_) <;> try (exfalso; omega)))
      | refine s_n ?_
      | refine s_r ?_
      | refine s_e ?_
      | refine b_n ?_
      | refine b_r ?_
      | refine b_e ?_
      | refine b_o rfl ?_
      | refine r_rt ?_
      | refine r_bk rfl ?_
      | refine r_ex rfl rfl ?_
      | refine sk_zero ?_
      | refine sk_succ ?_
      | refine wk_nil ?_
      | refine wk_cons ?_)
    · exact fa_q (by simp) (fun _ _ => rfl) (by
        have : ¬ R3 x.H := fun h => absurd h.1.symm ‹_›
        unfold okH; simp_all)
    · exact fa_q (by simp) (fun _ _ => rfl) (by
        have : ¬ R3 x.H := fun h => by have := h.2; have e : x.H.used = x.hdr.used := rfl; have e2 : x.H.room = x.hdr.room := rfl; omega
        unfold okH; simp_all)
    · exact j_i () ⟨Eq.symm ‹_›, by show x.hdr.used ≤ x.hdr.room; omega⟩
  refine g_cut (fun _ : Unit => [(1, .v (ptr b)), (3, .v (ptr b))]) (fun _ => [hdA b x.hdr, ro m]) (fun _ => R4 x.H) ?_ (fun _ h4 => ?_)
  · repeat' (first
      | (refine k_L ?_; first | (refine k_ad ?_; refine g_ad rfl rfl ?_) | (refine k_su ?_; refine g_su rfl rfl ?_) | (refine k_ml ?_; refine g_ml rfl rfl ?_) | refine a_p rfl ?_ | (refine k_g ?_; first | refine a_gy rfl rfl ?_ | refine a_gn rfl rfl ?_ | refine a_gu rfl ?_ | (refine a_gd rfl (fun hb => ?_) (fun hb => ?_) <;> try (exfalso; omega)) | (refine a_ge rfl (fun hb => ?_) (fun hb => ?_) <;> try (exfalso; omega)) | (refine a_gne rfl (fun hb => ?_) (fun hb => ?_) <;> try (exfalso; omega)) | (refine a_gnd rfl (fun hb => ?_) (fun hb => ?_) <;> try (exfalso; omega))) | (refine k_l ?_; first | refine g_l rfl ?_) | (refine k_i ?_; refine g_i rfl rfl ?_) | (refine k_ls ?_; refine g_ls rfl ?_) | (refine k_st ?_; first | refine g_st rfl rfl rfl rfl ?_ | refine g_sw rfl rfl rfl rfl (Nat.le_of_ble_eq_true rfl) ?_) | (refine k_al ?_; refine a_al ?_) | (refine k_bx ?_; refine a_bx rfl rfl ?_) | (refine k_bl ?_; refine a_bl rfl ?_) | (refine k_q ?_; first | refine a_q rfl (fun m hm => l1words_q (hs m hm)) ?_) | (refine k_c ?_; first | refine a_cq rfl (fun m hm => l1words_q (hs m hm)) ?_) | (refine k_p ?_; first | (refine a_pd rfl (fun hb => ?_) (fun hb => ?_) <;> try (exfalso; omega)) | (refine a_pe rfl (fun hb => ?_) (fun hb => ?_) <;> try (exfalso; omega)) | (refine a_pne rfl (fun hb => ?_) (fun hb => ?_) <;> try (exfalso; omega)) | (refine a_pnd rfl (fun hb => ?_) (fun hb => ?_) <;> try (exfalso; omega))))
      | refine a_n ?_
      | (refine k_V ?_; first | refine v_rv ?_ | refine v_seq ?_ | refine v_reg ?_ | refine v_dreg ?_ | refine v_zreg ?_ | refine v_bs ?_ | refine v_br ?_ | refine v_bd ?_ | refine v_bc ?_ | refine v_bk ?_ | refine v_bb ?_ | refine v_ret ?_ | refine v_exit ?_ | refine v_skip ?_ | refine v_ct rfl ?_ | refine v_cf rfl ?_ | (refine v_cd rfl (fun hb => ?_) (fun hb => ?_) <;> try (exfalso; omega)) | (refine v_ce rfl (fun hb => ?_) (fun hb => ?_) <;> try (exfalso; omega)) | (refine v_cn rfl (fun hb => ?_) (fun hb => ?_) <;> try (exfalso; omega)) | (refine v_cnd rfl (fun hb => ?_) (fun hb => ?_) <;> try (exfalso; omega)))
      | refine s_n ?_
      | refine s_r ?_
      | refine s_e ?_
      | refine b_n ?_
      | refine b_r ?_
      | refine b_e ?_
      | refine b_o rfl ?_
      | refine r_rt ?_
      | refine r_bk rfl ?_
      | refine r_ex rfl rfl ?_
      | refine sk_zero ?_
      | refine sk_succ ?_
      | refine wk_nil ?_
      | refine wk_cons ?_)
    · exact fa_q (by simp) (fun _ _ => rfl) (by unfold okH; simp_all)
    · exact j_i () ‹_›
  refine g_cut (fun _ : Unit => [(1, .v (ptr b)), (3, .v (ptr b))]) (fun _ => [hdA b x.hdr, ro m]) (fun _ => R5 x.H) ?_ (fun _ h5 => ?_)
  · repeat' (first
      | (refine k_L ?_; first | (refine k_ad ?_; refine g_ad rfl rfl ?_) | (refine k_su ?_; refine g_su rfl rfl ?_) | (refine k_ml ?_; refine g_ml rfl rfl ?_) | refine a_p rfl ?_ | (refine k_g ?_; first | refine a_gy rfl rfl ?_ | refine a_gn rfl rfl ?_ | refine a_gu rfl ?_ | (refine a_gd rfl (fun hb => ?_) (fun hb => ?_) <;> try (exfalso; omega)) | (refine a_ge rfl (fun hb => ?_) (fun hb => ?_) <;> try (exfalso; omega)) | (refine a_gne rfl (fun hb => ?_) (fun hb => ?_) <;> try (exfalso; omega)) | (refine a_gnd rfl (fun hb => ?_) (fun hb => ?_) <;> try (exfalso; omega))) | (refine k_l ?_; first | refine g_l rfl ?_) | (refine k_i ?_; refine g_i rfl rfl ?_) | (refine k_ls ?_; refine g_ls rfl ?_) | (refine k_st ?_; first | refine g_st rfl rfl rfl rfl ?_ | refine g_sw rfl rfl rfl rfl (Nat.le_of_ble_eq_true rfl) ?_) | (refine k_al ?_; refine a_al ?_) | (refine k_bx ?_; refine a_bx rfl rfl ?_) | (refine k_bl ?_; refine a_bl rfl ?_) | (refine k_q ?_; first | refine a_q rfl (fun m hm => l1colors_q (hs m hm) h2) ?_) | (refine k_c ?_; first | refine a_cq rfl (fun m hm => l1colors_q (hs m hm) h2) ?_) | (refine k_p ?_; first | (refine a_pd rfl (fun hb => ?_) (fun hb => ?_) <;> try (exfalso; omega)) | (refine a_pe rfl (fun hb => ?_) (fun hb => ?_) <;> try (exfalso; omega)) | (refine a_pne rfl (fun hb => ?_) (fun hb => ?_) <;> try (exfalso; omega)) | (refine a_pnd rfl (fun hb => ?_) (fun hb => ?_) <;> try (exfalso; omega))))
      | refine a_n ?_
      | (refine k_V ?_; first | refine v_rv ?_ | refine v_seq ?_ | refine v_reg ?_ | refine v_dreg ?_ | refine v_zreg ?_ | refine v_bs ?_ | refine v_br ?_ | refine v_bd ?_ | refine v_bc ?_ | refine v_bk ?_ | refine v_bb ?_ | refine v_ret ?_ | refine v_exit ?_ | refine v_skip ?_ | refine v_ct rfl ?_ | refine v_cf rfl ?_ | (refine v_cd rfl (fun hb => ?_) (fun hb => ?_) <;> try (exfalso; omega)) | (refine v_ce rfl (fun hb => ?_) (fun hb => ?_) <;> try (exfalso; omega)) | (refine v_cn rfl (fun hb => ?_) (fun hb => ?_) <;> try (exfalso; omega)) | (refine v_cnd rfl (fun hb => ?_) (fun hb => ?_) <;> try (exfalso; omega)))
      | refine s_n ?_
      | refine s_r ?_
      | refine s_e ?_
      | refine b_n ?_
      | refine b_r ?_
      | refine b_e ?_
      | refine b_o rfl ?_
      | refine r_rt ?_
      | refine r_bk rfl ?_
      | refine r_ex rfl rfl ?_
      | refine sk_zero ?_
      | refine sk_succ ?_
      | refine wk_nil ?_
      | refine wk_cons ?_)
    · exact fa_q (by simp) (fun _ _ => rfl) (by unfold okH; simp_all)
    · exact j_i () ‹_›
  refine g_cut (fun _ : Unit => [(1, .v (ptr b)), (3, .v (ptr b))]) (fun _ => [hdA b x.hdr, ro m]) (fun _ => R6 x.H) ?_ (fun _ h6 => ?_)
  · repeat' (first
      | (refine k_L ?_; first | (refine k_ad ?_; refine g_ad rfl rfl ?_) | (refine k_su ?_; refine g_su rfl rfl ?_) | (refine k_ml ?_; refine g_ml rfl rfl ?_) | refine a_p rfl ?_ | (refine k_g ?_; first | refine a_gy rfl rfl ?_ | refine a_gn rfl rfl ?_ | refine a_gu rfl ?_ | (refine a_gd rfl (fun hb => ?_) (fun hb => ?_) <;> try (exfalso; omega)) | (refine a_ge rfl (fun hb => ?_) (fun hb => ?_) <;> try (exfalso; omega)) | (refine a_gne rfl (fun hb => ?_) (fun hb => ?_) <;> try (exfalso; omega)) | (refine a_gnd rfl (fun hb => ?_) (fun hb => ?_) <;> try (exfalso; omega))) | (refine k_l ?_; first | refine g_l rfl ?_) | (refine k_i ?_; refine g_i rfl rfl ?_) | (refine k_ls ?_; refine g_ls rfl ?_) | (refine k_st ?_; first | refine g_st rfl rfl rfl rfl ?_ | refine g_sw rfl rfl rfl rfl (Nat.le_of_ble_eq_true rfl) ?_) | (refine k_al ?_; refine a_al ?_) | (refine k_bx ?_; refine a_bx rfl rfl ?_) | (refine k_bl ?_; refine a_bl rfl ?_) | (refine k_q ?_; first | refine a_q rfl (fun m hm => l1hands_q (hs m hm) h1 h5) ?_) | (refine k_c ?_; first | refine a_cq rfl (fun m hm => l1hands_q (hs m hm) h1 h5) ?_) | (refine k_p ?_; first | (refine a_pd rfl (fun hb => ?_) (fun hb => ?_) <;> try (exfalso; omega)) | (refine a_pe rfl (fun hb => ?_) (fun hb => ?_) <;> try (exfalso; omega)) | (refine a_pne rfl (fun hb => ?_) (fun hb => ?_) <;> try (exfalso; omega)) | (refine a_pnd rfl (fun hb => ?_) (fun hb => ?_) <;> try (exfalso; omega))))
      | refine a_n ?_
      | (refine k_V ?_; first | refine v_rv ?_ | refine v_seq ?_ | refine v_reg ?_ | refine v_dreg ?_ | refine v_zreg ?_ | refine v_bs ?_ | refine v_br ?_ | refine v_bd ?_ | refine v_bc ?_ | refine v_bk ?_ | refine v_bb ?_ | refine v_ret ?_ | refine v_exit ?_ | refine v_skip ?_ | refine v_ct rfl ?_ | refine v_cf rfl ?_ | (refine v_cd rfl (fun hb => ?_) (fun hb => ?_) <;> try (exfalso; omega)) | (refine v_ce rfl (fun hb => ?_) (fun hb => ?_) <;> try (exfalso; omega)) | (refine v_cn rfl (fun hb => ?_) (fun hb => ?_) <;> try (exfalso; omega)) | (refine v_cnd rfl (fun hb => ?_) (fun hb => ?_) <;> try (exfalso; omega)))
      | refine s_n ?_
      | refine s_r ?_
      | refine s_e ?_
      | refine b_n ?_
      | refine b_r ?_
      | refine b_e ?_
      | refine b_o rfl ?_
      | refine r_rt ?_
      | refine r_bk rfl ?_
      | refine r_ex rfl rfl ?_
      | refine sk_zero ?_
      | refine sk_succ ?_
      | refine wk_nil ?_
      | refine wk_cons ?_)
    · exact fa_q (by simp) (fun _ _ => rfl) (by unfold okH; simp_all)
    · exact j_i () ‹_›
  refine g_cut (fun _ : Unit => [(1, .v (ptr b)), (3, .v (ptr b))]) (fun _ => [hdA b x.hdr, ro m]) (fun _ => R7 x.H) ?_ (fun _ h7 => ?_)
  · repeat' (first
      | (refine k_L ?_; first | (refine k_ad ?_; refine g_ad rfl rfl ?_) | (refine k_su ?_; refine g_su rfl rfl ?_) | (refine k_ml ?_; refine g_ml rfl rfl ?_) | refine a_p rfl ?_ | (refine k_g ?_; first | refine a_gy rfl rfl ?_ | refine a_gn rfl rfl ?_ | refine a_gu rfl ?_ | (refine a_gd rfl (fun hb => ?_) (fun hb => ?_) <;> try (exfalso; omega)) | (refine a_ge rfl (fun hb => ?_) (fun hb => ?_) <;> try (exfalso; omega)) | (refine a_gne rfl (fun hb => ?_) (fun hb => ?_) <;> try (exfalso; omega)) | (refine a_gnd rfl (fun hb => ?_) (fun hb => ?_) <;> try (exfalso; omega))) | (refine k_l ?_; first | refine g_l rfl ?_) | (refine k_i ?_; refine g_i rfl rfl ?_) | (refine k_ls ?_; refine g_ls rfl ?_) | (refine k_st ?_; first | refine g_st rfl rfl rfl rfl ?_ | refine g_sw rfl rfl rfl rfl (Nat.le_of_ble_eq_true rfl) ?_) | (refine k_al ?_; refine a_al ?_) | (refine k_bx ?_; refine a_bx rfl rfl ?_) | (refine k_bl ?_; refine a_bl rfl ?_) | (refine k_q ?_; first | refine a_q rfl (fun m hm => l1marks_q (hs m hm) h1 h2 h4 h6) ?_) | (refine k_c ?_; first | refine a_cq rfl (fun m hm => l1marks_q (hs m hm) h1 h2 h4 h6) ?_) | (refine k_p ?_; first | (refine a_pd rfl (fun hb => ?_) (fun hb => ?_) <;> try (exfalso; omega)) | (refine a_pe rfl (fun hb => ?_) (fun hb => ?_) <;> try (exfalso; omega)) | (refine a_pne rfl (fun hb => ?_) (fun hb => ?_) <;> try (exfalso; omega)) | (refine a_pnd rfl (fun hb => ?_) (fun hb => ?_) <;> try (exfalso; omega))))
      | refine a_n ?_
      | (refine k_V ?_; first | refine v_rv ?_ | refine v_seq ?_ | refine v_reg ?_ | refine v_dreg ?_ | refine v_zreg ?_ | refine v_bs ?_ | refine v_br ?_ | refine v_bd ?_ | refine v_bc ?_ | refine v_bk ?_ | refine v_bb ?_ | refine v_ret ?_ | refine v_exit ?_ | refine v_skip ?_ | refine v_ct rfl ?_ | refine v_cf rfl ?_ | (refine v_cd rfl (fun hb => ?_) (fun hb => ?_) <;> try (exfalso; omega)) | (refine v_ce rfl (fun hb => ?_) (fun hb => ?_) <;> try (exfalso; omega)) | (refine v_cn rfl (fun hb => ?_) (fun hb => ?_) <;> try (exfalso; omega)) | (refine v_cnd rfl (fun hb => ?_) (fun hb => ?_) <;> try (exfalso; omega)))
      | refine s_n ?_
      | refine s_r ?_
      | refine s_e ?_
      | refine b_n ?_
      | refine b_r ?_
      | refine b_e ?_
      | refine b_o rfl ?_
      | refine r_rt ?_
      | refine r_bk rfl ?_
      | refine r_ex rfl rfl ?_
      | refine sk_zero ?_
      | refine sk_succ ?_
      | refine wk_nil ?_
      | refine wk_cons ?_)
    · exact fa_q (by simp) (fun _ _ => rfl) (by unfold okH; simp_all)
    · exact j_i () ‹_›
  refine g_cut (fun _ : Unit => [(1, .v (ptr b)), (3, .v (ptr b))]) (fun _ => [hdA b x.hdr, ro m]) (fun _ => R8 x.H) ?_ (fun _ h8 => ?_)
  · repeat' (first
      | (refine k_L ?_; first | (refine k_ad ?_; refine g_ad rfl rfl ?_) | (refine k_su ?_; refine g_su rfl rfl ?_) | (refine k_ml ?_; refine g_ml rfl rfl ?_) | refine a_p rfl ?_ | (refine k_g ?_; first | refine a_gy rfl rfl ?_ | refine a_gn rfl rfl ?_ | refine a_gu rfl ?_ | (refine a_gd rfl (fun hb => ?_) (fun hb => ?_) <;> try (exfalso; omega)) | (refine a_ge rfl (fun hb => ?_) (fun hb => ?_) <;> try (exfalso; omega)) | (refine a_gne rfl (fun hb => ?_) (fun hb => ?_) <;> try (exfalso; omega)) | (refine a_gnd rfl (fun hb => ?_) (fun hb => ?_) <;> try (exfalso; omega))) | (refine k_l ?_; first | refine g_l rfl ?_) | (refine k_i ?_; refine g_i rfl rfl ?_) | (refine k_ls ?_; refine g_ls rfl ?_) | (refine k_st ?_; first | refine g_st rfl rfl rfl rfl ?_ | refine g_sw rfl rfl rfl rfl (Nat.le_of_ble_eq_true rfl) ?_) | (refine k_al ?_; refine a_al ?_) | (refine k_bx ?_; refine a_bx rfl rfl ?_) | (refine k_bl ?_; refine a_bl rfl ?_) | (refine k_q ?_; first | refine a_q rfl (fun m hm => l1closing_q (hs m hm)) ?_) | (refine k_c ?_; first | refine a_cq rfl (fun m hm => l1closing_q (hs m hm)) ?_) | (refine k_p ?_; first | (refine a_pd rfl (fun hb => ?_) (fun hb => ?_) <;> try (exfalso; omega)) | (refine a_pe rfl (fun hb => ?_) (fun hb => ?_) <;> try (exfalso; omega)) | (refine a_pne rfl (fun hb => ?_) (fun hb => ?_) <;> try (exfalso; omega)) | (refine a_pnd rfl (fun hb => ?_) (fun hb => ?_) <;> try (exfalso; omega))))
      | refine a_n ?_
      | (refine k_V ?_; first | refine v_rv ?_ | refine v_seq ?_ | refine v_reg ?_ | refine v_dreg ?_ | refine v_zreg ?_ | refine v_bs ?_ | refine v_br ?_ | refine v_bd ?_ | refine v_bc ?_ | refine v_bk ?_ | refine v_bb ?_ | refine v_ret ?_ | refine v_exit ?_ | refine v_skip ?_ | refine v_ct rfl ?_ | refine v_cf rfl ?_ | (refine v_cd rfl (fun hb => ?_) (fun hb => ?_) <;> try (exfalso; omega)) | (refine v_ce rfl (fun hb => ?_) (fun hb => ?_) <;> try (exfalso; omega)) | (refine v_cn rfl (fun hb => ?_) (fun hb => ?_) <;> try (exfalso; omega)) | (refine v_cnd rfl (fun hb => ?_) (fun hb => ?_) <;> try (exfalso; omega)))
      | refine s_n ?_
      | refine s_r ?_
      | refine s_e ?_
      | refine b_n ?_
      | refine b_r ?_
      | refine b_e ?_
      | refine b_o rfl ?_
      | refine r_rt ?_
      | refine r_bk rfl ?_
      | refine r_ex rfl rfl ?_
      | refine sk_zero ?_
      | refine sk_succ ?_
      | refine wk_nil ?_
      | refine wk_cons ?_)
    · exact fa_q (by simp) (fun _ _ => rfl) (by unfold okH; simp_all)
    · exact j_i () ‹_›
  repeat' (first
    | (refine k_L ?_; first | (refine k_ad ?_; refine g_ad rfl rfl ?_) | (refine k_su ?_; refine g_su rfl rfl ?_) | (refine k_ml ?_; refine g_ml rfl rfl ?_) | refine a_p rfl ?_ | (refine k_g ?_; first | refine a_gy rfl rfl ?_ | refine a_gn rfl rfl ?_ | refine a_gu rfl ?_ | (refine a_gd rfl (fun hb => ?_) (fun hb => ?_) <;> try (exfalso; omega)) | (refine a_ge rfl (fun hb => ?_) (fun hb => ?_) <;> try (exfalso; omega)) | (refine a_gne rfl (fun hb => ?_) (fun hb => ?_) <;> try (exfalso; omega)) | (refine a_gnd rfl (fun hb => ?_) (fun hb => ?_) <;> try (exfalso; omega))) | (refine k_l ?_; first | refine g_l rfl ?_) | (refine k_i ?_; refine g_i rfl rfl ?_) | (refine k_ls ?_; refine g_ls rfl ?_) | (refine k_st ?_; first | refine g_st rfl rfl rfl rfl ?_ | refine g_sw rfl rfl rfl rfl (Nat.le_of_ble_eq_true rfl) ?_) | (refine k_al ?_; refine a_al ?_) | (refine k_bx ?_; refine a_bx rfl rfl ?_) | (refine k_bl ?_; refine a_bl rfl ?_) | (refine k_p ?_; first | (refine a_pd rfl (fun hb => ?_) (fun hb => ?_) <;> try (exfalso; omega)) | (refine a_pe rfl (fun hb => ?_) (fun hb => ?_) <;> try (exfalso; omega)) | (refine a_pne rfl (fun hb => ?_) (fun hb => ?_) <;> try (exfalso; omega)) | (refine a_pnd rfl (fun hb => ?_) (fun hb => ?_) <;> try (exfalso; omega))))
    | refine a_n ?_
    | (refine k_V ?_; first | refine v_rv ?_ | refine v_seq ?_ | refine v_reg ?_ | refine v_dreg ?_ | refine v_zreg ?_ | refine v_bs ?_ | refine v_br ?_ | refine v_bd ?_ | refine v_bc ?_ | refine v_bk ?_ | refine v_bb ?_ | refine v_ret ?_ | refine v_exit ?_ | refine v_skip ?_ | refine v_ct rfl ?_ | refine v_cf rfl ?_ | (refine v_cd rfl (fun hb => ?_) (fun hb => ?_) <;> try (exfalso; omega)) | (refine v_ce rfl (fun hb => ?_) (fun hb => ?_) <;> try (exfalso; omega)) | (refine v_cn rfl (fun hb => ?_) (fun hb => ?_) <;> try (exfalso; omega)) | (refine v_cnd rfl (fun hb => ?_) (fun hb => ?_) <;> try (exfalso; omega)))
    | refine s_n ?_
    | refine s_r ?_
    | refine s_e ?_
    | refine b_n ?_
    | refine b_r ?_
    | refine b_e ?_
    | refine b_o rfl ?_
    | refine r_rt ?_
    | refine r_bk rfl ?_
    | refine r_ex rfl rfl ?_
    | refine sk_zero ?_
    | refine sk_succ ?_
    | refine wk_nil ?_
    | refine wk_cons ?_)
  exact fa_q (by simp) (fun _ _ => rfl) (by rw [(okH_sound x.H).2 ⟨h1, h2, h3, h4, h5, h6, h7, h8⟩])
end Go.Proofs.Ytcmllambknfleaa.E
/- What the laws on heaps share: an argument that is only read, copies of it. Conditions: none. -/
set_option linter.unusedVariables false
set_option linter.unusedSimpArgs false
set_option maxHeartbeats 4000000
set_option maxRecDepth 100000
namespace Go.Proofs.Ytcmllambknfleaa.E
open Go
open Classical
theorem un_le {a b M : Mem} (h1 : a.le M) (h2 : b.le M) : (a.un b).le M := by
  intro x k hk
  cases ha : a x with
  | some k' => rw [un_l ha] at hk; cases hk; exact h1 x k ha
  | none => rw [un_n ha] at hk; exact h2 x k hk
theorem toHeap_a {M : Mem} {x : HS} (hb : x.H.bulk ≤ 1048576) (hx : RHVR M x) : FnA Try.prog 32 [x.v] [ro M] (fun v As => ∃ y : HX, v = y.v ∧ y.H = x.H ∧ As = ro M :: y.body) :=
  ⟨fun m hm => by
    obtain ⟨a, e', d, rfl, h1, h2⟩ := hm
    have h1 : a = M := h1
    have h2 : e' = emp := h2
    subst h1; subst h2
    rw [un_emp]
    refine (toHeap_f hb hx).mono ?_
    rintro v M' ⟨y, rfl, hy, hw, hf, hle⟩
    obtain ⟨x', rfl, hs⟩ := body_w hw
    refine ⟨ro a :: x'.body, a.un (resL M' x'.hs.fp), un_le hle (resL_le _ _), ⟨a, _, ?_, rfl, rfl, hs⟩, x', rfl, hy, rfl⟩
    intro b
    by_cases hb : b ∈ x'.hs.fp
    · exact .inl (hf b hb)
    · right; unfold resL; rw [if_neg hb]⟩
theorem has_p {m : Mem} {As Bs F : List Asr} (hm : star As m) (hp : Pm As Bs F := by (fail_if_success apply pm_bad); (repeat (first | exact pm_nil | (apply pm_cons; repeat (first | exact pk_h | apply pk_t)))); fail_if_success focus skip) : Has m Bs := by
  obtain ⟨a, b, d, rfl, h, _⟩ := star_append.1 (hp.out m hm)
  exact ⟨a, le_l _ _, h⟩
theorem qt_e {P : Program} {f : FuncId} {args : List Value} {m : Mem} {r r' : Value} (h : Qt P f args m r) (e : r = r') : Qt P f args m r' := e ▸ h
end Go.Proofs.Ytcmllambknfleaa.E
/- The functions of the program in the engine's form, written by a program out of the loaded translation, and checked against it by the kernel. Conditions: none. -/
set_option maxRecDepth 100000
set_option linter.unusedVariables false
namespace Go.Proofs.Ytcmllambknfleaa.E
open Go
/-! impl.Resolve -/
noncomputable def e36 : Env := ⟨Try.prog, [3, 4], 31, []⟩
noncomputable def c36 : C :=
  .seq (.reg [
    ⟨some 2, none, .box false (.tmp 0)⟩,
    ⟨some 3, none, .box true (.tmp 1)⟩,
    ⟨some 4, none, .alloc true [.int .i64 0, .int .i64 0, .int .i64 0]⟩]) (.seq (.seq (.reg [
    ⟨some 5, none, .load false 13 (.tmp 2)⟩,
    ⟨some 6, none, .call 105 [.tmp 5]⟩,
    ⟨some 7, none, .not (.tmp 6)⟩,
    ⟨some 8, none, .mov (.tmp 7)⟩,
    ⟨some 9, some (8, false), .load false 3 (.tmp 3)⟩,
    ⟨some 10, some (8, false), .call 106 [.tmp 2, .tmp 9]⟩,
    ⟨some 11, some (8, false), .not (.tmp 10)⟩,
    ⟨some 12, none, .pick (.tmp 8) (.const (.bool true)) (.tmp 11)⟩,
    ⟨some 13, none, .mov (.tmp 12)⟩,
    ⟨some 14, some (13, false), .faddr 0 (.tmp 3)⟩,
    ⟨some 15, some (13, false), .load true 1 (.tmp 14)⟩,
    ⟨some 16, some (13, false), .bin .eql (.tmp 15) (.const (.int .i64 2))⟩,
    ⟨some 17, some (13, false), .mov (.tmp 16)⟩,
    ⟨some 18, some (17, true), .faddr 4 (.tmp 2)⟩,
    ⟨some 19, some (17, true), .load true 1 (.tmp 18)⟩,
    ⟨some 20, some (17, true), .faddr 2 (.tmp 3)⟩,
    ⟨some 21, some (17, true), .load true 1 (.tmp 20)⟩,
    ⟨some 22, some (17, true), .iaddr 8 (.tmp 19) (.tmp 21)⟩,
    ⟨some 23, some (17, true), .faddr 0 (.tmp 22)⟩,
    ⟨some 24, some (17, true), .load true 1 (.tmp 23)⟩,
    ⟨some 25, some (17, true), .bin .eql (.tmp 24) (.const (.int .i64 0))⟩,
    ⟨some 26, some (13, false), .pick (.tmp 17) (.tmp 25) (.const (.bool false))⟩,
    ⟨some 27, none, .pick (.tmp 13) (.const (.bool true)) (.tmp 26)⟩]) (.cond (.tmp 27) (.seq (.reg [
    ⟨some 28, none, .build [.int .i64 0, .int .i64 0, .int .i64 0] []⟩,
    ⟨none, none, .store 3 (.tmp 4) (.tmp 28)⟩]) (.ret)) (.skip))) (.seq (.reg [
    ⟨some 29, none, .load false 3 (.tmp 3)⟩,
    ⟨some 30, none, .call 107 [.tmp 2, .tmp 29]⟩,
    ⟨none, none, .store 3 (.tmp 4) (.tmp 30)⟩]) (.ret)))
theorem t36 : Try.f36.body.bind (trC e36) = some c36 := by kernel_rfl
theorem r36 : Try.f36.results.toList.mapM (trR Try.prog) = some [.cell 4 false 3] := by kernel_rfl
theorem fn36 {args : List Value} {M : Mem} {post : Value → Mem → Prop} (hl : args.length ≤ 31) (h : VC e36 c36 (fnQ [.cell 4 false 3] post) (initS args 31) M) : Fn Try.prog 36 args M post :=
  Fn.of' (E := e36) Try.func36 t36 rfl r36 mixed hl h
/-! spec.Resolve -/
noncomputable def e34 : Env := ⟨Try.prog, [3, 4], 33, []⟩
noncomputable def c34 : C :=
  .seq (.reg [
    ⟨some 2, none, .box false (.tmp 0)⟩,
    ⟨some 3, none, .box true (.tmp 1)⟩,
    ⟨some 4, none, .alloc true [.int .i64 0, .int .i64 0, .int .i64 0]⟩]) (.seq (.seq (.reg [
    ⟨some 5, none, .load false 13 (.tmp 2)⟩,
    ⟨some 6, none, .call 31 [.tmp 5]⟩,
    ⟨some 7, none, .bin .neq (.tmp 6) (.const (.int .i64 0))⟩,
    ⟨some 8, none, .mov (.tmp 7)⟩,
    ⟨some 9, some (8, false), .load false 3 (.tmp 3)⟩,
    ⟨some 10, some (8, false), .faddr 4 (.tmp 2)⟩,
    ⟨some 11, some (8, false), .load true 1 (.tmp 10)⟩,
    ⟨some 12, some (8, false), .lenS (.tmp 11)⟩,
    ⟨some 13, some (8, false), .call 103 [.tmp 9, .tmp 12]⟩,
    ⟨some 14, some (8, false), .not (.tmp 13)⟩,
    ⟨some 15, none, .pick (.tmp 8) (.const (.bool true)) (.tmp 14)⟩]) (.cond (.tmp 15) (.seq (.reg [
    ⟨some 16, none, .build [.int .i64 0, .int .i64 0, .int .i64 0] []⟩,
    ⟨none, none, .store 3 (.tmp 4) (.tmp 16)⟩]) (.ret)) (.skip))) (.seq (.seq (.reg [
    ⟨some 17, none, .faddr 0 (.tmp 3)⟩,
    ⟨some 18, none, .load true 1 (.tmp 17)⟩,
    ⟨some 19, none, .bin .eql (.tmp 18) (.const (.int .i64 2))⟩,
    ⟨some 20, none, .mov (.tmp 19)⟩,
    ⟨some 21, some (20, true), .faddr 4 (.tmp 2)⟩,
    ⟨some 22, some (20, true), .load true 1 (.tmp 21)⟩,
    ⟨some 23, some (20, true), .faddr 2 (.tmp 3)⟩,
    ⟨some 24, some (20, true), .load true 1 (.tmp 23)⟩,
    ⟨some 25, some (20, true), .iaddr 8 (.tmp 22) (.tmp 24)⟩,
    ⟨some 26, some (20, true), .faddr 0 (.tmp 25)⟩,
    ⟨some 27, some (20, true), .load true 1 (.tmp 26)⟩,
    ⟨some 28, some (20, true), .bin .eql (.tmp 27) (.const (.int .i64 0))⟩,
    ⟨some 29, none, .pick (.tmp 20) (.tmp 28) (.const (.bool false))⟩]) (.cond (.tmp 29) (.seq (.reg [
    ⟨some 30, none, .build [.int .i64 0, .int .i64 0, .int .i64 0] []⟩,
    ⟨none, none, .store 3 (.tmp 4) (.tmp 30)⟩]) (.ret)) (.skip))) (.seq (.reg [
    ⟨some 31, none, .load false 3 (.tmp 3)⟩,
    ⟨some 32, none, .call 104 [.tmp 2, .tmp 31]⟩,
    ⟨none, none, .store 3 (.tmp 4) (.tmp 32)⟩]) (.ret))))
theorem t34 : Try.f34.body.bind (trC e34) = some c34 := by kernel_rfl
theorem r34 : Try.f34.results.toList.mapM (trR Try.prog) = some [.cell 4 false 3] := by kernel_rfl
theorem fn34 {args : List Value} {M : Mem} {post : Value → Mem → Prop} (hl : args.length ≤ 33) (h : VC e34 c34 (fnQ [.cell 4 false 3] post) (initS args 33) M) : Fn Try.prog 34 args M post :=
  Fn.of' (E := e34) Try.func34 t34 rfl r34 mixed hl h
end Go.Proofs.Ytcmllambknfleaa.E
/- Resolve, the program's and the reference's. Conditions: none. -/
set_option linter.unusedVariables false
set_option linter.unusedSimpArgs false
set_option maxHeartbeats 4000000
set_option maxRecDepth 100000
namespace Go.Proofs.Ytcmllambknfleaa.E
open Go
open Classical
theorem sound_q {m : Mem} {x : HX} (h : Has m x.body) : Qt Try.prog 105 [x.v] m (.bool (decide (okH x.H = 0))) := by
  refine qt_of (fnA_of (fun h => fn105 (by simp) h) ?_)
  repeat' (first
    | (refine k_L ?_; first | (refine k_ad ?_; refine g_ad rfl rfl ?_) | (refine k_su ?_; refine g_su rfl rfl ?_) | (refine k_ml ?_; refine g_ml rfl rfl ?_) | refine a_p rfl ?_ | (refine k_g ?_; first | refine a_gy rfl rfl ?_ | refine a_gn rfl rfl ?_ | refine a_gu rfl ?_ | (refine a_gd rfl (fun hb => ?_) (fun hb => ?_) <;> try (exfalso; omega)) | (refine a_ge rfl (fun hb => ?_) (fun hb => ?_) <;> try (exfalso; omega)) | (refine a_gne rfl (fun hb => ?_) (fun hb => ?_) <;> try (exfalso; omega)) | (refine a_gnd rfl (fun hb => ?_) (fun hb => ?_) <;> try (exfalso; omega))) | (refine k_l ?_; first | refine g_l rfl ?_) | (refine k_i ?_; refine g_i rfl rfl ?_) | (refine k_ls ?_; refine g_ls rfl ?_) | (refine k_st ?_; first | refine g_st rfl rfl rfl rfl ?_ | refine g_sw rfl rfl rfl rfl (Nat.le_of_ble_eq_true rfl) ?_) | (refine k_al ?_; refine a_al ?_) | (refine k_bx ?_; refine a_bx rfl rfl ?_) | (refine k_bl ?_; refine a_bl rfl ?_) | (refine k_q ?_; first | refine a_q rfl (fun m hm => implHeapOk_q (x := x) (has_g h hm)) ?_) | (refine k_c ?_; first | refine a_cq rfl (fun m hm => implHeapOk_q (x := x) (has_g h hm)) ?_) | (refine k_p ?_; first | (refine a_pd rfl (fun hb => ?_) (fun hb => ?_) <;> try (exfalso; omega)) | (refine a_pe rfl (fun hb => ?_) (fun hb => ?_) <;> try (exfalso; omega)) | (refine a_pne rfl (fun hb => ?_) (fun hb => ?_) <;> try (exfalso; omega)) | (refine a_pnd rfl (fun hb => ?_) (fun hb => ?_) <;> try (exfalso; omega))))
    | refine a_n ?_
    | (refine k_V ?_; first | refine v_rv ?_ | refine v_seq ?_ | refine v_reg ?_ | refine v_dreg ?_ | refine v_zreg ?_ | refine v_bs ?_ | refine v_br ?_ | refine v_bd ?_ | refine v_bc ?_ | refine v_bk ?_ | refine v_bb ?_ | refine v_ret ?_ | refine v_exit ?_ | refine v_skip ?_ | refine v_ct rfl ?_ | refine v_cf rfl ?_ | (refine v_cd rfl (fun hb => ?_) (fun hb => ?_) <;> try (exfalso; omega)) | (refine v_ce rfl (fun hb => ?_) (fun hb => ?_) <;> try (exfalso; omega)) | (refine v_cn rfl (fun hb => ?_) (fun hb => ?_) <;> try (exfalso; omega)) | (refine v_cnd rfl (fun hb => ?_) (fun hb => ?_) <;> try (exfalso; omega)))
    | refine s_n ?_
    | refine s_r ?_
    | refine s_e ?_
    | refine b_n ?_
    | refine b_r ?_
    | refine b_e ?_
    | refine b_o rfl ?_
    | refine r_rt ?_
    | refine r_bk rfl ?_
    | refine r_ex rfl rfl ?_
    | refine sk_zero ?_
    | refine sk_succ ?_
    | refine wk_nil ?_
    | refine wk_cons ?_)
  exact fa_q (by simp) (fun _ _ => rfl) rfl
noncomputable def Heap.resolve (H : Heap) (w : Word) : Word := if okH H = 0 ∧ Formed H w ∧ ¬ (w.kind = 2 ∧ (H.getC w.at_).state = 0) then H.lead w else ⟨0, 0, 0⟩
theorem implResolve_q {m : Mem} {x : HX} {w : Word} (h : Has m x.body) : Qt Try.prog 36 [x.v, wa w] m (wa (x.H.resolve w)) := by
  have hl := x.len
  have hf : Formed x.H w → w.kind = 2 → 0 ≤ w.at_ ∧ w.at_ < x.H.cells.length := fun hf hk => hf.at hk
  by_cases hF : Formed x.H w
  · by_cases hk : w.kind = 2
    · have hat := hF.at hk
      have hat' := hat
      rw [x.len] at hat
      obtain ⟨y, gy, gc⟩ := HX.atI (x := x) hat.1 hat.2
      refine qt_of (fnA_of (fun h => fn36 (by simp) h) ?_)
      refine v_seq (v_reg (a_nwh x rfl (fun b => ?_)))
      have hs : ∀ m', star [hdA b x.hdr, ro m] m' → Has m' (hp b x) := fun m' s => has_new h s (by (fail_if_success apply pm_bad); (repeat (first | exact pm_nil | (apply pm_cons; repeat (first | exact pk_h | apply pk_t)))); fail_if_success focus skip) (F := [])
      repeat' (first
        | (refine k_L ?_; first | (refine k_ad ?_; refine g_ad rfl rfl ?_) | (refine k_su ?_; refine g_su rfl rfl ?_) | (refine k_ml ?_; refine g_ml rfl rfl ?_) | refine a_p rfl ?_ | (refine k_g ?_; first | refine a_gy rfl rfl ?_ | refine a_gn rfl rfl ?_ | refine a_gu rfl ?_ | (refine a_gd rfl (fun hb => ?_) (fun hb => ?_) <;> try (exfalso; omega)) | (refine a_ge rfl (fun hb => ?_) (fun hb => ?_) <;> try (exfalso; omega)) | (refine a_gne rfl (fun hb => ?_) (fun hb => ?_) <;> try (exfalso; omega)) | (refine a_gnd rfl (fun hb => ?_) (fun hb => ?_) <;> try (exfalso; omega))) | (refine k_l ?_; first | refine g_l rfl ?_) | (refine k_i ?_; refine g_i rfl rfl ?_) | (refine k_ls ?_; refine g_ls rfl ?_) | (refine k_st ?_; first | refine g_st rfl rfl rfl rfl ?_ | refine g_sw rfl rfl rfl rfl (Nat.le_of_ble_eq_true rfl) ?_) | (refine k_al ?_; refine a_al ?_) | (refine k_bx ?_; refine a_bx rfl rfl ?_) | (refine k_bl ?_; refine a_bl rfl ?_) | (refine k_q ?_; first | refine a_q rfl (fun m hm => sound_q (x := x) (has_g h hm)) ?_ | refine a_q rfl (fun m hm => formed_q (x := x.hs) (w := w) (hs m hm).ph) ?_ | refine a_q rfl (fun m hm => lead_q (x := x.hs) (w := w) (hs m hm).ph (hf hF)) ?_) | (refine k_c ?_; first | refine a_cq rfl (fun m hm => sound_q (x := x) (has_g h hm)) ?_ | refine a_cq rfl (fun m hm => formed_q (x := x.hs) (w := w) (hs m hm).ph) ?_ | refine a_cq rfl (fun m hm => lead_q (x := x.hs) (w := w) (hs m hm).ph (hf hF)) ?_) | (refine k_p ?_; first | (refine a_pd rfl (fun hb => ?_) (fun hb => ?_) <;> try (exfalso; omega)) | (refine a_pe rfl (fun hb => ?_) (fun hb => ?_) <;> try (exfalso; omega)) | (refine a_pne rfl (fun hb => ?_) (fun hb => ?_) <;> try (exfalso; omega)) | (refine a_pnd rfl (fun hb => ?_) (fun hb => ?_) <;> try (exfalso; omega))))
        | refine a_n ?_
        | (refine k_V ?_; first | refine v_rv ?_ | refine v_seq ?_ | refine v_reg ?_ | refine v_dreg ?_ | refine v_zreg ?_ | refine v_bs ?_ | refine v_br ?_ | refine v_bd ?_ | refine v_bc ?_ | refine v_bk ?_ | refine v_bb ?_ | refine v_ret ?_ | refine v_exit ?_ | refine v_skip ?_ | refine v_ct rfl ?_ | refine v_cf rfl ?_ | (refine v_cd rfl (fun hb => ?_) (fun hb => ?_) <;> try (exfalso; omega)) | (refine v_ce rfl (fun hb => ?_) (fun hb => ?_) <;> try (exfalso; omega)) | (refine v_cn rfl (fun hb => ?_) (fun hb => ?_) <;> try (exfalso; omega)) | (refine v_cnd rfl (fun hb => ?_) (fun hb => ?_) <;> try (exfalso; omega)))
        | refine s_n ?_
        | refine s_r ?_
        | refine s_e ?_
        | refine b_n ?_
        | refine b_r ?_
        | refine b_e ?_
        | refine b_o rfl ?_
        | refine r_rt ?_
        | refine r_bk rfl ?_
        | refine r_ex rfl rfl ?_
        | refine sk_zero ?_
        | refine sk_succ ?_
        | refine wk_nil ?_
        | refine wk_cons ?_)
      all_goals first | exact absurd hF ‹_› | skip
      all_goals refine fa_q (by simp) (fun _ _ => rfl) ?_
      all_goals (unfold Heap.resolve; simp_all <;> rfl)
    · refine qt_of (fnA_of (fun h => fn36 (by simp) h) ?_)
      refine v_seq (v_reg (a_nwh x rfl (fun b => ?_)))
      have hs : ∀ m', star [hdA b x.hdr, ro m] m' → Has m' (hp b x) := fun m' s => has_new h s (by (fail_if_success apply pm_bad); (repeat (first | exact pm_nil | (apply pm_cons; repeat (first | exact pk_h | apply pk_t)))); fail_if_success focus skip) (F := [])
      repeat' (first
        | (refine k_L ?_; first | (refine k_ad ?_; refine g_ad rfl rfl ?_) | (refine k_su ?_; refine g_su rfl rfl ?_) | (refine k_ml ?_; refine g_ml rfl rfl ?_) | refine a_p rfl ?_ | (refine k_g ?_; first | refine a_gy rfl rfl ?_ | refine a_gn rfl rfl ?_ | refine a_gu rfl ?_ | (refine a_gd rfl (fun hb => ?_) (fun hb => ?_) <;> try (exfalso; omega)) | (refine a_ge rfl (fun hb => ?_) (fun hb => ?_) <;> try (exfalso; omega)) | (refine a_gne rfl (fun hb => ?_) (fun hb => ?_) <;> try (exfalso; omega)) | (refine a_gnd rfl (fun hb => ?_) (fun hb => ?_) <;> try (exfalso; omega))) | (refine k_l ?_; first | refine g_l rfl ?_) | (refine k_i ?_; refine g_i rfl rfl ?_) | (refine k_ls ?_; refine g_ls rfl ?_) | (refine k_st ?_; first | refine g_st rfl rfl rfl rfl ?_ | refine g_sw rfl rfl rfl rfl (Nat.le_of_ble_eq_true rfl) ?_) | (refine k_al ?_; refine a_al ?_) | (refine k_bx ?_; refine a_bx rfl rfl ?_) | (refine k_bl ?_; refine a_bl rfl ?_) | (refine k_q ?_; first | refine a_q rfl (fun m hm => sound_q (x := x) (has_g h hm)) ?_ | refine a_q rfl (fun m hm => formed_q (x := x.hs) (w := w) (hs m hm).ph) ?_ | refine a_q rfl (fun m hm => lead_q (x := x.hs) (w := w) (hs m hm).ph (hf hF)) ?_) | (refine k_c ?_; first | refine a_cq rfl (fun m hm => sound_q (x := x) (has_g h hm)) ?_ | refine a_cq rfl (fun m hm => formed_q (x := x.hs) (w := w) (hs m hm).ph) ?_ | refine a_cq rfl (fun m hm => lead_q (x := x.hs) (w := w) (hs m hm).ph (hf hF)) ?_) | (refine k_p ?_; first | (refine a_pd rfl (fun hb => ?_) (fun hb => ?_) <;> try (exfalso; omega)) | (refine a_pe rfl (fun hb => ?_) (fun hb => ?_) <;> try (exfalso; omega)) | (refine a_pne rfl (fun hb => ?_) (fun hb => ?_) <;> try (exfalso; omega)) | (refine a_pnd rfl (fun hb => ?_) (fun hb => ?_) <;> try (exfalso; omega))))
        | refine a_n ?_
        | (refine k_V ?_; first | refine v_rv ?_ | refine v_seq ?_ | refine v_reg ?_ | refine v_dreg ?_ | refine v_zreg ?_ | refine v_bs ?_ | refine v_br ?_ | refine v_bd ?_ | refine v_bc ?_ | refine v_bk ?_ | refine v_bb ?_ | refine v_ret ?_ | refine v_exit ?_ | refine v_skip ?_ | refine v_ct rfl ?_ | refine v_cf rfl ?_ | (refine v_cd rfl (fun hb => ?_) (fun hb => ?_) <;> try (exfalso; omega)) | (refine v_ce rfl (fun hb => ?_) (fun hb => ?_) <;> try (exfalso; omega)) | (refine v_cn rfl (fun hb => ?_) (fun hb => ?_) <;> try (exfalso; omega)) | (refine v_cnd rfl (fun hb => ?_) (fun hb => ?_) <;> try (exfalso; omega)))
        | refine s_n ?_
        | refine s_r ?_
        | refine s_e ?_
        | refine b_n ?_
        | refine b_r ?_
        | refine b_e ?_
        | refine b_o rfl ?_
        | refine r_rt ?_
        | refine r_bk rfl ?_
        | refine r_ex rfl rfl ?_
        | refine sk_zero ?_
        | refine sk_succ ?_
        | refine wk_nil ?_
        | refine wk_cons ?_)
      all_goals first | exact absurd hF ‹_› | exact absurd ‹w.kind = 2› hk | skip
      all_goals refine fa_q (by simp) (fun _ _ => rfl) ?_
      all_goals (unfold Heap.resolve; simp_all <;> rfl)
  · refine qt_of (fnA_of (fun h => fn36 (by simp) h) ?_)
    refine v_seq (v_reg (a_nwh x rfl (fun b => ?_)))
    have hs : ∀ m', star [hdA b x.hdr, ro m] m' → Has m' (hp b x) := fun m' s => has_new h s (by (fail_if_success apply pm_bad); (repeat (first | exact pm_nil | (apply pm_cons; repeat (first | exact pk_h | apply pk_t)))); fail_if_success focus skip) (F := [])
    repeat' (first
      | (refine k_L ?_; first | (refine k_ad ?_; refine g_ad rfl rfl ?_) | (refine k_su ?_; refine g_su rfl rfl ?_) | (refine k_ml ?_; refine g_ml rfl rfl ?_) | refine a_p rfl ?_ | (refine k_g ?_; first | refine a_gy rfl rfl ?_ | refine a_gn rfl rfl ?_ | refine a_gu rfl ?_ | (refine a_gd rfl (fun hb => ?_) (fun hb => ?_) <;> try (exfalso; omega)) | (refine a_ge rfl (fun hb => ?_) (fun hb => ?_) <;> try (exfalso; omega)) | (refine a_gne rfl (fun hb => ?_) (fun hb => ?_) <;> try (exfalso; omega)) | (refine a_gnd rfl (fun hb => ?_) (fun hb => ?_) <;> try (exfalso; omega))) | (refine k_l ?_; first | refine g_l rfl ?_) | (refine k_i ?_; refine g_i rfl rfl ?_) | (refine k_ls ?_; refine g_ls rfl ?_) | (refine k_st ?_; first | refine g_st rfl rfl rfl rfl ?_ | refine g_sw rfl rfl rfl rfl (Nat.le_of_ble_eq_true rfl) ?_) | (refine k_al ?_; refine a_al ?_) | (refine k_bx ?_; refine a_bx rfl rfl ?_) | (refine k_bl ?_; refine a_bl rfl ?_) | (refine k_q ?_; first | refine a_q rfl (fun m hm => sound_q (x := x) (has_g h hm)) ?_ | refine a_q rfl (fun m hm => formed_q (x := x.hs) (w := w) (hs m hm).ph) ?_) | (refine k_c ?_; first | refine a_cq rfl (fun m hm => sound_q (x := x) (has_g h hm)) ?_ | refine a_cq rfl (fun m hm => formed_q (x := x.hs) (w := w) (hs m hm).ph) ?_) | (refine k_p ?_; first | (refine a_pd rfl (fun hb => ?_) (fun hb => ?_) <;> try (exfalso; omega)) | (refine a_pe rfl (fun hb => ?_) (fun hb => ?_) <;> try (exfalso; omega)) | (refine a_pne rfl (fun hb => ?_) (fun hb => ?_) <;> try (exfalso; omega)) | (refine a_pnd rfl (fun hb => ?_) (fun hb => ?_) <;> try (exfalso; omega))))
      | refine a_n ?_
      | (refine k_V ?_; first | refine v_rv ?_ | refine v_seq ?_ | refine v_reg ?_ | refine v_dreg ?_ | refine v_zreg ?_ | refine v_bs ?_ | refine v_br ?_ | refine v_bd ?_ | refine v_bc ?_ | refine v_bk ?_ | refine v_bb ?_ | refine v_ret ?_ | refine v_exit ?_ | refine v_skip ?_ | refine v_ct rfl ?_ | refine v_cf rfl ?_ | (refine v_cd rfl (fun hb => ?_) (fun hb => ?_) <;> try (exfalso; omega)) | (refine v_ce rfl (fun hb => ?_) (fun hb => ?_) <;> try (exfalso; omega)) | (refine v_cn rfl (fun hb => ?_) (fun hb => ?_) <;> try (exfalso; omega)) | (refine v_cnd rfl (fun hb => ?_) (fun hb => ?_) <;> try (exfalso; omega)))
      | refine s_n ?_
      | refine s_r ?_
      | refine s_e ?_
      | refine b_n ?_
      | refine b_r ?_
      | refine b_e ?_
      | refine b_o rfl ?_
      | refine r_rt ?_
      | refine r_bk rfl ?_
      | refine r_ex rfl rfl ?_
      | refine sk_zero ?_
      | refine sk_succ ?_
      | refine wk_nil ?_
      | refine wk_cons ?_)
    all_goals first | exact absurd ‹Formed x.H w› hF | skip
    all_goals refine fa_q (by simp) (fun _ _ => rfl) ?_
    all_goals (unfold Heap.resolve; simp_all <;> rfl)
theorem specResolve_q {m : Mem} {x : HX} {w : Word} (h : Has m x.body) : Qt Try.prog 34 [x.v, wa w] m (wa (x.H.resolve w)) := by
  have hl := x.len
  have hf : Formed x.H w → w.kind = 2 → 0 ≤ w.at_ ∧ w.at_ < x.H.cells.length := fun hf hk => hf.at hk
  by_cases hF : Formed x.H w
  · by_cases hk : w.kind = 2
    · have hat := hF.at hk
      have hat' := hat
      rw [x.len] at hat
      obtain ⟨y, gy, gc⟩ := HX.atI (x := x) hat.1 hat.2
      refine qt_of (fnA_of (fun h => fn34 (by simp) h) ?_)
      refine v_seq (v_reg (a_nwh x rfl (fun b => ?_)))
      have hs : ∀ m', star [hdA b x.hdr, ro m] m' → Has m' (hp b x) := fun m' s => has_new h s (by (fail_if_success apply pm_bad); (repeat (first | exact pm_nil | (apply pm_cons; repeat (first | exact pk_h | apply pk_t)))); fail_if_success focus skip) (F := [])
      repeat' (first
        | (refine k_L ?_; first | (refine k_ad ?_; refine g_ad rfl rfl ?_) | (refine k_su ?_; refine g_su rfl rfl ?_) | (refine k_ml ?_; refine g_ml rfl rfl ?_) | refine a_p rfl ?_ | (refine k_g ?_; first | refine a_gy rfl rfl ?_ | refine a_gn rfl rfl ?_ | refine a_gu rfl ?_ | (refine a_gd rfl (fun hb => ?_) (fun hb => ?_) <;> try (exfalso; omega)) | (refine a_ge rfl (fun hb => ?_) (fun hb => ?_) <;> try (exfalso; omega)) | (refine a_gne rfl (fun hb => ?_) (fun hb => ?_) <;> try (exfalso; omega)) | (refine a_gnd rfl (fun hb => ?_) (fun hb => ?_) <;> try (exfalso; omega))) | (refine k_l ?_; first | refine g_l rfl ?_) | (refine k_i ?_; refine g_i rfl rfl ?_) | (refine k_ls ?_; refine g_ls rfl ?_) | (refine k_st ?_; first | refine g_st rfl rfl rfl rfl ?_ | refine g_sw rfl rfl rfl rfl (Nat.le_of_ble_eq_true rfl) ?_) | (refine k_al ?_; refine a_al ?_) | (refine k_bx ?_; refine a_bx rfl rfl ?_) | (refine k_bl ?_; refine a_bl rfl ?_) | (refine k_q ?_; first | refine a_q rfl (fun m hm => specHeapOk_q (x := x) (has_g h hm)) ?_ | refine a_q rfl (fun m hm => l1formed_q (H := x.H) (w := w) (by rw [hl]; rfl)) ?_ | refine a_q rfl (fun m hm => l1resolve_q (x := x) (w := w) (hs m hm) (hf hF)) ?_) | (refine k_c ?_; first | refine a_cq rfl (fun m hm => specHeapOk_q (x := x) (has_g h hm)) ?_ | refine a_cq rfl (fun m hm => l1formed_q (H := x.H) (w := w) (by rw [hl]; rfl)) ?_ | refine a_cq rfl (fun m hm => l1resolve_q (x := x) (w := w) (hs m hm) (hf hF)) ?_) | (refine k_p ?_; first | (refine a_pd rfl (fun hb => ?_) (fun hb => ?_) <;> try (exfalso; omega)) | (refine a_pe rfl (fun hb => ?_) (fun hb => ?_) <;> try (exfalso; omega)) | (refine a_pne rfl (fun hb => ?_) (fun hb => ?_) <;> try (exfalso; omega)) | (refine a_pnd rfl (fun hb => ?_) (fun hb => ?_) <;> try (exfalso; omega))))
        | refine a_n ?_
        | (refine k_V ?_; first | refine v_rv ?_ | refine v_seq ?_ | refine v_reg ?_ | refine v_dreg ?_ | refine v_zreg ?_ | refine v_bs ?_ | refine v_br ?_ | refine v_bd ?_ | refine v_bc ?_ | refine v_bk ?_ | refine v_bb ?_ | refine v_ret ?_ | refine v_exit ?_ | refine v_skip ?_ | refine v_ct rfl ?_ | refine v_cf rfl ?_ | (refine v_cd rfl (fun hb => ?_) (fun hb => ?_) <;> try (exfalso; omega)) | (refine v_ce rfl (fun hb => ?_) (fun hb => ?_) <;> try (exfalso; omega)) | (refine v_cn rfl (fun hb => ?_) (fun hb => ?_) <;> try (exfalso; omega)) | (refine v_cnd rfl (fun hb => ?_) (fun hb => ?_) <;> try (exfalso; omega)))
        | refine s_n ?_
        | refine s_r ?_
        | refine s_e ?_
        | refine b_n ?_
        | refine b_r ?_
        | refine b_e ?_
        | refine b_o rfl ?_
        | refine r_rt ?_
        | refine r_bk rfl ?_
        | refine r_ex rfl rfl ?_
        | refine sk_zero ?_
        | refine sk_succ ?_
        | refine wk_nil ?_
        | refine wk_cons ?_)
      all_goals first | exact absurd hF ‹_› | skip
      all_goals refine fa_q (by simp) (fun _ _ => rfl) ?_
      all_goals (unfold Heap.resolve; simp_all <;> rfl)
    · refine qt_of (fnA_of (fun h => fn34 (by simp) h) ?_)
      refine v_seq (v_reg (a_nwh x rfl (fun b => ?_)))
      have hs : ∀ m', star [hdA b x.hdr, ro m] m' → Has m' (hp b x) := fun m' s => has_new h s (by (fail_if_success apply pm_bad); (repeat (first | exact pm_nil | (apply pm_cons; repeat (first | exact pk_h | apply pk_t)))); fail_if_success focus skip) (F := [])
      repeat' (first
        | (refine k_L ?_; first | (refine k_ad ?_; refine g_ad rfl rfl ?_) | (refine k_su ?_; refine g_su rfl rfl ?_) | (refine k_ml ?_; refine g_ml rfl rfl ?_) | refine a_p rfl ?_ | (refine k_g ?_; first | refine a_gy rfl rfl ?_ | refine a_gn rfl rfl ?_ | refine a_gu rfl ?_ | (refine a_gd rfl (fun hb => ?_) (fun hb => ?_) <;> try (exfalso; omega)) | (refine a_ge rfl (fun hb => ?_) (fun hb => ?_) <;> try (exfalso; omega)) | (refine a_gne rfl (fun hb => ?_) (fun hb => ?_) <;> try (exfalso; omega)) | (refine a_gnd rfl (fun hb => ?_) (fun hb => ?_) <;> try (exfalso; omega))) | (refine k_l ?_; first | refine g_l rfl ?_) | (refine k_i ?_; refine g_i rfl rfl ?_) | (refine k_ls ?_; refine g_ls rfl ?_) | (refine k_st ?_; first | refine g_st rfl rfl rfl rfl ?_ | refine g_sw rfl rfl rfl rfl (Nat.le_of_ble_eq_true rfl) ?_) | (refine k_al ?_; refine a_al ?_) | (refine k_bx ?_; refine a_bx rfl rfl ?_) | (refine k_bl ?_; refine a_bl rfl ?_) | (refine k_q ?_; first | refine a_q rfl (fun m hm => specHeapOk_q (x := x) (has_g h hm)) ?_ | refine a_q rfl (fun m hm => l1formed_q (H := x.H) (w := w) (by rw [hl]; rfl)) ?_ | refine a_q rfl (fun m hm => l1resolve_q (x := x) (w := w) (hs m hm) (hf hF)) ?_) | (refine k_c ?_; first | refine a_cq rfl (fun m hm => specHeapOk_q (x := x) (has_g h hm)) ?_ | refine a_cq rfl (fun m hm => l1formed_q (H := x.H) (w := w) (by rw [hl]; rfl)) ?_ | refine a_cq rfl (fun m hm => l1resolve_q (x := x) (w := w) (hs m hm) (hf hF)) ?_) | (refine k_p ?_; first | (refine a_pd rfl (fun hb => ?_) (fun hb => ?_) <;> try (exfalso; omega)) | (refine a_pe rfl (fun hb => ?_) (fun hb => ?_) <;> try (exfalso; omega)) | (refine a_pne rfl (fun hb => ?_) (fun hb => ?_) <;> try (exfalso; omega)) | (refine a_pnd rfl (fun hb => ?_) (fun hb => ?_) <;> try (exfalso; omega))))
        | refine a_n ?_
        | (refine k_V ?_; first | refine v_rv ?_ | refine v_seq ?_ | refine v_reg ?_ | refine v_dreg ?_ | refine v_zreg ?_ | refine v_bs ?_ | refine v_br ?_ | refine v_bd ?_ | refine v_bc ?_ | refine v_bk ?_ | refine v_bb ?_ | refine v_ret ?_ | refine v_exit ?_ | refine v_skip ?_ | refine v_ct rfl ?_ | refine v_cf rfl ?_ | (refine v_cd rfl (fun hb => ?_) (fun hb => ?_) <;> try (exfalso; omega)) | (refine v_ce rfl (fun hb => ?_) (fun hb => ?_) <;> try (exfalso; omega)) | (refine v_cn rfl (fun hb => ?_) (fun hb => ?_) <;> try (exfalso; omega)) | (refine v_cnd rfl (fun hb => ?_) (fun hb => ?_) <;> try (exfalso; omega)))
        | refine s_n ?_
        | refine s_r ?_
        | refine s_e ?_
        | refine b_n ?_
        | refine b_r ?_
        | refine b_e ?_
        | refine b_o rfl ?_
        | refine r_rt ?_
        | refine r_bk rfl ?_
        | refine r_ex rfl rfl ?_
        | refine sk_zero ?_
        | refine sk_succ ?_
        | refine wk_nil ?_
        | refine wk_cons ?_)
      all_goals first | exact absurd hF ‹_› | exact absurd ‹w.kind = 2› hk | skip
      all_goals refine fa_q (by simp) (fun _ _ => rfl) ?_
      all_goals (unfold Heap.resolve; simp_all <;> rfl)
  · refine qt_of (fnA_of (fun h => fn34 (by simp) h) ?_)
    refine v_seq (v_reg (a_nwh x rfl (fun b => ?_)))
    have hs : ∀ m', star [hdA b x.hdr, ro m] m' → Has m' (hp b x) := fun m' s => has_new h s (by (fail_if_success apply pm_bad); (repeat (first | exact pm_nil | (apply pm_cons; repeat (first | exact pk_h | apply pk_t)))); fail_if_success focus skip) (F := [])
    repeat' (first
      | (refine k_L ?_; first | (refine k_ad ?_; refine g_ad rfl rfl ?_) | (refine k_su ?_; refine g_su rfl rfl ?_) | (refine k_ml ?_; refine g_ml rfl rfl ?_) | refine a_p rfl ?_ | (refine k_g ?_; first | refine a_gy rfl rfl ?_ | refine a_gn rfl rfl ?_ | refine a_gu rfl ?_ | (refine a_gd rfl (fun hb => ?_) (fun hb => ?_) <;> try (exfalso; omega)) | (refine a_ge rfl (fun hb => ?_) (fun hb => ?_) <;> try (exfalso; omega)) | (refine a_gne rfl (fun hb => ?_) (fun hb => ?_) <;> try (exfalso; omega)) | (refine a_gnd rfl (fun hb => ?_) (fun hb => ?_) <;> try (exfalso; omega))) | (refine k_l ?_; first | refine g_l rfl ?_) | (refine k_i ?_; refine g_i rfl rfl ?_) | (refine k_ls ?_; refine g_ls rfl ?_) | (refine k_st ?_; first | refine g_st rfl rfl rfl rfl ?_ | refine g_sw rfl rfl rfl rfl (Nat.le_of_ble_eq_true rfl) ?_) | (refine k_al ?_; refine a_al ?_) | (refine k_bx ?_; refine a_bx rfl rfl ?_) | (refine k_bl ?_; refine a_bl rfl ?_) | (refine k_q ?_; first | refine a_q rfl (fun m hm => specHeapOk_q (x := x) (has_g h hm)) ?_ | refine a_q rfl (fun m hm => l1formed_q (H := x.H) (w := w) (by rw [hl]; rfl)) ?_) | (refine k_c ?_; first | refine a_cq rfl (fun m hm => specHeapOk_q (x := x) (has_g h hm)) ?_ | refine a_cq rfl (fun m hm => l1formed_q (H := x.H) (w := w) (by rw [hl]; rfl)) ?_) | (refine k_p ?_; first | (refine a_pd rfl (fun hb => ?_) (fun hb => ?_) <;> try (exfalso; omega)) | (refine a_pe rfl (fun hb => ?_) (fun hb => ?_) <;> try (exfalso; omega)) | (refine a_pne rfl (fun hb => ?_) (fun hb => ?_) <;> try (exfalso; omega)) | (refine a_pnd rfl (fun hb => ?_) (fun hb => ?_) <;> try (exfalso; omega))))
      | refine a_n ?_
      | (refine k_V ?_; first | refine v_rv ?_ | refine v_seq ?_ | refine v_reg ?_ | refine v_dreg ?_ | refine v_zreg ?_ | refine v_bs ?_ | refine v_br ?_ | refine v_bd ?_ | refine v_bc ?_ | refine v_bk ?_ | refine v_bb ?_ | refine v_ret ?_ | refine v_exit ?_ | refine v_skip ?_ | refine v_ct rfl ?_ | refine v_cf rfl ?_ | (refine v_cd rfl (fun hb => ?_) (fun hb => ?_) <;> try (exfalso; omega)) | (refine v_ce rfl (fun hb => ?_) (fun hb => ?_) <;> try (exfalso; omega)) | (refine v_cn rfl (fun hb => ?_) (fun hb => ?_) <;> try (exfalso; omega)) | (refine v_cnd rfl (fun hb => ?_) (fun hb => ?_) <;> try (exfalso; omega)))
      | refine s_n ?_
      | refine s_r ?_
      | refine s_e ?_
      | refine b_n ?_
      | refine b_r ?_
      | refine b_e ?_
      | refine b_o rfl ?_
      | refine r_rt ?_
      | refine r_bk rfl ?_
      | refine r_ex rfl rfl ?_
      | refine sk_zero ?_
      | refine sk_succ ?_
      | refine wk_nil ?_
      | refine wk_cons ?_)
    all_goals first | exact absurd ‹Formed x.H w› hF | skip
    all_goals refine fa_q (by simp) (fun _ _ => rfl) ?_
    all_goals (unfold Heap.resolve; simp_all <;> rfl)
end Go.Proofs.Ytcmllambknfleaa.E
/- The functions of the program in the engine's form, written by a program out of the loaded translation, and checked against it by the kernel. Conditions: none. -/
set_option maxRecDepth 100000
set_option linter.unusedVariables false
namespace Go.Proofs.Ytcmllambknfleaa.E
open Go
/-! laws.FnExactResolve -/
noncomputable def e7 : Env := ⟨Try.prog, [2, 3, 6, 7, 8], 34, [(5, 0), (7, 0), (10, 0)]⟩
noncomputable def c7 : C :=
  .seq (.reg [
    ⟨some 2, none, .box true (.tmp 0)⟩,
    ⟨some 3, none, .box true (.tmp 1)⟩,
    ⟨some 4, none, .mov (.const (.bool false))⟩]) (.seq (.reg [
    ⟨some 5, none, .mov (.const (.int .i64 1048576))⟩]) (.seq (.reg [
    ⟨some 9, none, .load false 13 (.tmp 2)⟩,
    ⟨some 10, none, .mov (.tmp 5)⟩,
    ⟨some 11, none, .call 30 [.tmp 9, .tmp 10]⟩,
    ⟨some 5, none, .mov (.tmp 11)⟩]) (.seq (.seq (.reg [
    ⟨some 12, none, .mov (.tmp 5)⟩,
    ⟨some 13, none, .bin .lss (.tmp 12) (.const (.int .i64 0))⟩]) (.cond (.tmp 13) (.seq (.reg [
    ⟨some 4, none, .mov (.const (.bool true))⟩]) (.ret)) (.skip))) (.seq (.zreg [14, 15, 16, 17, 18, 6] [
    ⟨some 14, none, .load false 13 (.tmp 2)⟩,
    ⟨some 16, none, .load false 3 (.tmp 3)⟩,
    ⟨some 6, none, .alloc true [.int .i64 0, .int .i64 0, .int .i64 0]⟩] [
    ⟨some 15, none, .call 32 [.tmp 14]⟩,
    ⟨some 17, none, .call 35 [.tmp 16]⟩,
    ⟨some 18, none, .call 34 [.tmp 15, .tmp 17]⟩,
    ⟨none, none, .store 3 (.tmp 6) (.tmp 18)⟩]) (.seq (.reg [
    ⟨some 19, none, .load false 13 (.tmp 2)⟩,
    ⟨some 20, none, .call 32 [.tmp 19]⟩,
    ⟨some 7, none, .alloc true [.int .i64 0, .int .i64 0, .int .i64 0, .slice none 0 0, .slice none 0 0, .int .i64 0, .int .i64 0, .int .i64 0, .slice none 0 0, .int .i64 0, .int .i64 0, .int .i64 0, .int .i64 0]⟩,
    ⟨none, none, .store 13 (.tmp 7) (.tmp 20)⟩]) (.seq (.zreg [21, 22, 23, 24, 8] [
    ⟨some 21, none, .load false 13 (.tmp 7)⟩,
    ⟨some 22, none, .load false 3 (.tmp 3)⟩,
    ⟨some 8, none, .alloc true [.int .i64 0, .int .i64 0, .int .i64 0]⟩] [
    ⟨some 23, none, .call 35 [.tmp 22]⟩,
    ⟨some 24, none, .call 36 [.tmp 21, .tmp 23]⟩,
    ⟨none, none, .store 3 (.tmp 8) (.tmp 24)⟩]) (.seq (.seq (.reg [
    ⟨some 25, none, .load false 3 (.tmp 8)⟩,
    ⟨some 26, none, .load false 3 (.tmp 6)⟩,
    ⟨some 27, none, .call 37 [.tmp 25, .tmp 26]⟩,
    ⟨some 28, none, .not (.tmp 27)⟩]) (.cond (.tmp 28) (.seq (.reg [
    ⟨some 4, none, .mov (.const (.bool false))⟩]) (.ret)) (.skip))) (.seq (.seq (.zreg [29, 30, 31, 32, 33] [
    ⟨some 29, none, .load false 13 (.tmp 7)⟩,
    ⟨some 30, none, .load false 13 (.tmp 2)⟩] [
    ⟨some 31, none, .call 32 [.tmp 30]⟩,
    ⟨some 32, none, .call 27 [.tmp 29, .tmp 31]⟩,
    ⟨some 33, none, .not (.tmp 32)⟩]) (.cond (.tmp 33) (.seq (.reg [
    ⟨some 4, none, .mov (.const (.bool false))⟩]) (.ret)) (.skip))) (.seq (.reg [
    ⟨some 4, none, .mov (.const (.bool true))⟩]) (.ret))))))))))
theorem t7 : Try.f7.body.bind (trC e7) = some c7 := by kernel_rfl
theorem r7 : Try.f7.results.toList.mapM (trR Try.prog) = some [.tmp 4] := by kernel_rfl
theorem fn7 {args : List Value} {M : Mem} {post : Value → Mem → Prop} (hl : args.length ≤ 34) (h : VC e7 c7 (fnQ [.tmp 4] post) (initS args 34) M) : Fn Try.prog 7 args M post :=
  Fn.of' (E := e7) Try.func7 t7 rfl r7 mixed hl h
end Go.Proofs.Ytcmllambknfleaa.E
/- The law on Resolve. Conditions: none. -/
set_option linter.unusedVariables false
set_option linter.unusedSimpArgs false
set_option maxHeartbeats 4000000
set_option maxRecDepth 100000
namespace Go.Proofs.Ytcmllambknfleaa.E
open Go
open Classical
theorem fnExactResolve_q {M : Mem} {x : HS} {w : Word} (hx : RHVR M x) : Qt Try.prog 7 [x.v, wa w] M (.bool true) := by
  refine qt_of (fnA_of (fun h => fn7 (by simp) h) ?_)
  repeat' (first
    | (refine k_L ?_; first | (refine k_ad ?_; refine g_ad rfl rfl ?_) | (refine k_su ?_; refine g_su rfl rfl ?_) | (refine k_ml ?_; refine g_ml rfl rfl ?_) | refine a_p rfl ?_ | (refine k_g ?_; first | refine a_gy rfl rfl ?_ | refine a_gn rfl rfl ?_ | refine a_gu rfl ?_ | (refine a_gd rfl (fun hb => ?_) (fun hb => ?_) <;> try (exfalso; omega)) | (refine a_ge rfl (fun hb => ?_) (fun hb => ?_) <;> try (exfalso; omega)) | (refine a_gne rfl (fun hb => ?_) (fun hb => ?_) <;> try (exfalso; omega)) | (refine a_gnd rfl (fun hb => ?_) (fun hb => ?_) <;> try (exfalso; omega))) | (refine k_l ?_; first | refine g_l rfl ?_) | (refine k_i ?_; refine g_i rfl rfl ?_) | (refine k_ls ?_; refine g_ls rfl ?_) | (refine k_st ?_; first | refine g_st rfl rfl rfl rfl ?_ | refine g_sw rfl rfl rfl rfl (Nat.le_of_ble_eq_true rfl) ?_) | (refine k_al ?_; refine a_al ?_) | (refine k_bx ?_; refine a_bx rfl rfl ?_) | (refine k_bl ?_; refine a_bl rfl ?_) | (refine k_q ?_; first | refine a_q rfl (fun m hm => szHeap_q (by omega) (by omega) (hx.le (ro_of hm (by (fail_if_success apply pm_bad); (repeat (first | exact pm_nil | (apply pm_cons; repeat (first | exact pk_h | apply pk_t)))); fail_if_success focus skip)))) ?_) | (refine k_c ?_; first | refine a_cq rfl (fun m hm => szHeap_q (by omega) (by omega) (hx.le (ro_of hm (by (fail_if_success apply pm_bad); (repeat (first | exact pm_nil | (apply pm_cons; repeat (first | exact pk_h | apply pk_t)))); fail_if_success focus skip)))) ?_) | (refine k_p ?_; first | (refine a_pd rfl (fun hb => ?_) (fun hb => ?_) <;> try (exfalso; omega)) | (refine a_pe rfl (fun hb => ?_) (fun hb => ?_) <;> try (exfalso; omega)) | (refine a_pne rfl (fun hb => ?_) (fun hb => ?_) <;> try (exfalso; omega)) | (refine a_pnd rfl (fun hb => ?_) (fun hb => ?_) <;> try (exfalso; omega))))
    | refine a_n ?_
    | (refine k_V ?_; first | refine v_rv ?_ | refine v_seq ?_ | refine v_reg ?_ | refine v_dreg ?_ | refine v_zreg ?_ | refine v_bs ?_ | refine v_br ?_ | refine v_bd ?_ | refine v_bc ?_ | refine v_bk ?_ | refine v_bb ?_ | refine v_ret ?_ | refine v_exit ?_ | refine v_skip ?_ | refine v_ct rfl ?_ | refine v_cf rfl ?_ | (refine v_cd rfl (fun hb => ?_) (fun hb => ?_) <;> try (exfalso; omega)) | (refine v_ce rfl (fun hb => ?_) (fun hb => ?_) <;> try (exfalso; omega)) | (refine v_cn rfl (fun hb => ?_) (fun hb => ?_) <;> try (exfalso; omega)) | (refine v_cnd rfl (fun hb => ?_) (fun hb => ?_) <;> try (exfalso; omega)))
    | refine s_n ?_
    | refine s_r ?_
    | refine s_e ?_
    | refine b_n ?_
    | refine b_r ?_
    | refine b_e ?_
    | refine b_o rfl ?_
    | refine r_rt ?_
    | refine r_bk rfl ?_
    | refine r_ex rfl rfl ?_
    | refine sk_zero ?_
    | refine sk_succ ?_
    | refine wk_nil ?_
    | refine wk_cons ?_)
  · exact fa_q (by simp) (fun _ _ => rfl) rfl
  have hb' : x.H.bulk ≤ 1048576 := by
    by_cases h : x.H.bulk ≤ 1048576
    · exact h
    · rw [if_neg h] at *; omega
  refine g_c rfl (toHeap_a hb' hx) (fun v As' hq => ?_)
  obtain ⟨y, rfl, hy, rfl⟩ := hq
  repeat' (first
    | (refine k_L ?_; first | (refine k_ad ?_; refine g_ad rfl rfl ?_) | (refine k_su ?_; refine g_su rfl rfl ?_) | (refine k_ml ?_; refine g_ml rfl rfl ?_) | refine a_p rfl ?_ | (refine k_g ?_; first | refine a_gy rfl rfl ?_ | refine a_gn rfl rfl ?_ | refine a_gu rfl ?_ | (refine a_gd rfl (fun hb => ?_) (fun hb => ?_) <;> try (exfalso; omega)) | (refine a_ge rfl (fun hb => ?_) (fun hb => ?_) <;> try (exfalso; omega)) | (refine a_gne rfl (fun hb => ?_) (fun hb => ?_) <;> try (exfalso; omega)) | (refine a_gnd rfl (fun hb => ?_) (fun hb => ?_) <;> try (exfalso; omega))) | (refine k_l ?_; first | refine g_l rfl ?_) | (refine k_i ?_; refine g_i rfl rfl ?_) | (refine k_ls ?_; refine g_ls rfl ?_) | (refine k_st ?_; first | refine g_st rfl rfl rfl rfl ?_ | refine g_sw rfl rfl rfl rfl (Nat.le_of_ble_eq_true rfl) ?_) | (refine k_al ?_; refine a_al ?_) | (refine k_bx ?_; refine a_bx rfl rfl ?_) | (refine k_bl ?_; refine a_bl rfl ?_) | (refine k_q ?_; first | refine a_q rfl (fun m hm => toWord_q (a := w)) ?_ | refine a_q rfl (fun m hm => qt_e (specResolve_q (x := y) (w := w) (has_p hm)) (by rw [hy])) ?_) | (refine k_c ?_; first | refine a_cq rfl (fun m hm => toWord_q (a := w)) ?_ | refine a_cq rfl (fun m hm => qt_e (specResolve_q (x := y) (w := w) (has_p hm)) (by rw [hy])) ?_) | (refine k_p ?_; first | (refine a_pd rfl (fun hb => ?_) (fun hb => ?_) <;> try (exfalso; omega)) | (refine a_pe rfl (fun hb => ?_) (fun hb => ?_) <;> try (exfalso; omega)) | (refine a_pne rfl (fun hb => ?_) (fun hb => ?_) <;> try (exfalso; omega)) | (refine a_pnd rfl (fun hb => ?_) (fun hb => ?_) <;> try (exfalso; omega))))
    | refine a_n ?_
    | (refine k_V ?_; first | refine v_rv ?_ | refine v_seq ?_ | refine v_reg ?_ | refine v_dreg ?_ | refine v_zreg ?_ | refine v_bs ?_ | refine v_br ?_ | refine v_bd ?_ | refine v_bc ?_ | refine v_bk ?_ | refine v_bb ?_ | refine v_ret ?_ | refine v_exit ?_ | refine v_skip ?_ | refine v_ct rfl ?_ | refine v_cf rfl ?_ | (refine v_cd rfl (fun hb => ?_) (fun hb => ?_) <;> try (exfalso; omega)) | (refine v_ce rfl (fun hb => ?_) (fun hb => ?_) <;> try (exfalso; omega)) | (refine v_cn rfl (fun hb => ?_) (fun hb => ?_) <;> try (exfalso; omega)) | (refine v_cnd rfl (fun hb => ?_) (fun hb => ?_) <;> try (exfalso; omega)))
    | refine s_n ?_
    | refine s_r ?_
    | refine s_e ?_
    | refine b_n ?_
    | refine b_r ?_
    | refine b_e ?_
    | refine b_o rfl ?_
    | refine r_rt ?_
    | refine r_bk rfl ?_
    | refine r_ex rfl rfl ?_
    | refine sk_zero ?_
    | refine sk_succ ?_
    | refine wk_nil ?_
    | refine wk_cons ?_)
  refine g_c rfl (toHeap_a hb' hx) (fun v As' hq => ?_)
  obtain ⟨z, rfl, hz, rfl⟩ := hq
  repeat' (first
    | (refine k_L ?_; first | (refine k_ad ?_; refine g_ad rfl rfl ?_) | (refine k_su ?_; refine g_su rfl rfl ?_) | (refine k_ml ?_; refine g_ml rfl rfl ?_) | refine a_p rfl ?_ | (refine k_g ?_; first | refine a_gy rfl rfl ?_ | refine a_gn rfl rfl ?_ | refine a_gu rfl ?_ | (refine a_gd rfl (fun hb => ?_) (fun hb => ?_) <;> try (exfalso; omega)) | (refine a_ge rfl (fun hb => ?_) (fun hb => ?_) <;> try (exfalso; omega)) | (refine a_gne rfl (fun hb => ?_) (fun hb => ?_) <;> try (exfalso; omega)) | (refine a_gnd rfl (fun hb => ?_) (fun hb => ?_) <;> try (exfalso; omega))) | (refine k_l ?_; first | refine g_l rfl ?_) | (refine k_i ?_; refine g_i rfl rfl ?_) | (refine k_ls ?_; refine g_ls rfl ?_) | (refine k_st ?_; first | refine g_st rfl rfl rfl rfl ?_ | refine g_sw rfl rfl rfl rfl (Nat.le_of_ble_eq_true rfl) ?_) | (refine k_al ?_; refine a_al ?_) | (refine k_bx ?_; refine a_bx rfl rfl ?_) | (refine k_bl ?_; refine a_bl rfl ?_) | (refine k_q ?_; first | refine a_q rfl (fun m hm => toWord_q (a := w)) ?_ | refine a_q rfl (fun m hm => qt_e (implResolve_q (x := z) (w := w) (has_p hm)) (by rw [hz])) ?_ | refine a_q rfl (fun m hm => qt_e (eqWord_q (a := x.H.resolve w) (b := x.H.resolve w)) (congrArg Value.bool (decide_eq_true rfl))) ?_) | (refine k_c ?_; first | refine a_cq rfl (fun m hm => toWord_q (a := w)) ?_ | refine a_cq rfl (fun m hm => qt_e (implResolve_q (x := z) (w := w) (has_p hm)) (by rw [hz])) ?_ | refine a_cq rfl (fun m hm => qt_e (eqWord_q (a := x.H.resolve w) (b := x.H.resolve w)) (congrArg Value.bool (decide_eq_true rfl))) ?_) | (refine k_p ?_; first | (refine a_pd rfl (fun hb => ?_) (fun hb => ?_) <;> try (exfalso; omega)) | (refine a_pe rfl (fun hb => ?_) (fun hb => ?_) <;> try (exfalso; omega)) | (refine a_pne rfl (fun hb => ?_) (fun hb => ?_) <;> try (exfalso; omega)) | (refine a_pnd rfl (fun hb => ?_) (fun hb => ?_) <;> try (exfalso; omega))))
    | refine a_n ?_
    | (refine k_V ?_; first | refine v_rv ?_ | refine v_seq ?_ | refine v_reg ?_ | refine v_dreg ?_ | refine v_zreg ?_ | refine v_bs ?_ | refine v_br ?_ | refine v_bd ?_ | refine v_bc ?_ | refine v_bk ?_ | refine v_bb ?_ | refine v_ret ?_ | refine v_exit ?_ | refine v_skip ?_ | refine v_ct rfl ?_ | refine v_cf rfl ?_ | (refine v_cd rfl (fun hb => ?_) (fun hb => ?_) <;> try (exfalso; omega)) | (refine v_ce rfl (fun hb => ?_) (fun hb => ?_) <;> try (exfalso; omega)) | (refine v_cn rfl (fun hb => ?_) (fun hb => ?_) <;> try (exfalso; omega)) | (refine v_cnd rfl (fun hb => ?_) (fun hb => ?_) <;> try (exfalso; omega)))
    | refine s_n ?_
    | refine s_r ?_
    | refine s_e ?_
    | refine b_n ?_
    | refine b_r ?_
    | refine b_e ?_
    | refine b_o rfl ?_
    | refine r_rt ?_
    | refine r_bk rfl ?_
    | refine r_ex rfl rfl ?_
    | refine sk_zero ?_
    | refine sk_succ ?_
    | refine wk_nil ?_
    | refine wk_cons ?_)
  refine g_c rfl (toHeap_a hb' hx) (fun v As' hq => ?_)
  obtain ⟨u, rfl, hu, rfl⟩ := hq
  repeat' (first
    | (refine k_L ?_; first | (refine k_ad ?_; refine g_ad rfl rfl ?_) | (refine k_su ?_; refine g_su rfl rfl ?_) | (refine k_ml ?_; refine g_ml rfl rfl ?_) | refine a_p rfl ?_ | (refine k_g ?_; first | refine a_gy rfl rfl ?_ | refine a_gn rfl rfl ?_ | refine a_gu rfl ?_ | (refine a_gd rfl (fun hb => ?_) (fun hb => ?_) <;> try (exfalso; omega)) | (refine a_ge rfl (fun hb => ?_) (fun hb => ?_) <;> try (exfalso; omega)) | (refine a_gne rfl (fun hb => ?_) (fun hb => ?_) <;> try (exfalso; omega)) | (refine a_gnd rfl (fun hb => ?_) (fun hb => ?_) <;> try (exfalso; omega))) | (refine k_l ?_; first | refine g_l rfl ?_) | (refine k_i ?_; refine g_i rfl rfl ?_) | (refine k_ls ?_; refine g_ls rfl ?_) | (refine k_st ?_; first | refine g_st rfl rfl rfl rfl ?_ | refine g_sw rfl rfl rfl rfl (Nat.le_of_ble_eq_true rfl) ?_) | (refine k_al ?_; refine a_al ?_) | (refine k_bx ?_; refine a_bx rfl rfl ?_) | (refine k_bl ?_; refine a_bl rfl ?_) | (refine k_q ?_; first | refine a_q rfl (fun m hm => qt_e (eqHeap_q (x := z.hs) (y := u.hs) (has_p hm).b (has_p hm).b) (congrArg Value.bool (decide_eq_true (hz.trans hu.symm)))) ?_) | (refine k_c ?_; first | refine a_cq rfl (fun m hm => qt_e (eqHeap_q (x := z.hs) (y := u.hs) (has_p hm).b (has_p hm).b) (congrArg Value.bool (decide_eq_true (hz.trans hu.symm)))) ?_) | (refine k_p ?_; first | (refine a_pd rfl (fun hb => ?_) (fun hb => ?_) <;> try (exfalso; omega)) | (refine a_pe rfl (fun hb => ?_) (fun hb => ?_) <;> try (exfalso; omega)) | (refine a_pne rfl (fun hb => ?_) (fun hb => ?_) <;> try (exfalso; omega)) | (refine a_pnd rfl (fun hb => ?_) (fun hb => ?_) <;> try (exfalso; omega))))
    | refine a_n ?_
    | (refine k_V ?_; first | refine v_rv ?_ | refine v_seq ?_ | refine v_reg ?_ | refine v_dreg ?_ | refine v_zreg ?_ | refine v_bs ?_ | refine v_br ?_ | refine v_bd ?_ | refine v_bc ?_ | refine v_bk ?_ | refine v_bb ?_ | refine v_ret ?_ | refine v_exit ?_ | refine v_skip ?_ | refine v_ct rfl ?_ | refine v_cf rfl ?_ | (refine v_cd rfl (fun hb => ?_) (fun hb => ?_) <;> try (exfalso; omega)) | (refine v_ce rfl (fun hb => ?_) (fun hb => ?_) <;> try (exfalso; omega)) | (refine v_cn rfl (fun hb => ?_) (fun hb => ?_) <;> try (exfalso; omega)) | (refine v_cnd rfl (fun hb => ?_) (fun hb => ?_) <;> try (exfalso; omega)))
    | refine s_n ?_
    | refine s_r ?_
    | refine s_e ?_
    | refine b_n ?_
    | refine b_r ?_
    | refine b_e ?_
    | refine b_o rfl ?_
    | refine r_rt ?_
    | refine r_bk rfl ?_
    | refine r_ex rfl rfl ?_
    | refine sk_zero ?_
    | refine sk_succ ?_
    | refine wk_nil ?_
    | refine wk_cons ?_)
  exact fa_q (by simp) (fun _ _ => rfl) rfl
end Go.Proofs.Ytcmllambknfleaa.E
/- The row of Resolve. Conditions: none. -/
set_option linter.unusedVariables false
set_option linter.unusedSimpArgs false
set_option maxRecDepth 100000
namespace Go.Proofs.Ytcmllambknfleaa.E
open Go Go.ChangeShapes Go.WideShapes Go.ChangeAt Go.RowKit
theorem liftedResolve (os : Os) (started : os.Started) (H : Type) (enc : TypeId × Value → H) :
    ReturnsInHanded {} Try.checked os 7 .any (Rows.fnExactResolveSpec.pre6 enc Try.prog Try.f7 Rows.fnExactResolveRow.domain false) (Rows.fnExactResolveSpec.post enc Try.prog Try.f7 false true false false) := by
  refine returnsInHanded_of_change_sized (C := Try.checked) ownknob started (by kernel_rfl) Try.func7
    (ChangeSpec.witness6 (enc := enc) (C := Try.checked) false ⟨#[], #[.agg #[.int .i64 0, .int .i64 0, .int .i64 0, .slice none 0 0, .slice none 0 0, .int .i64 0, .int .i64 0, .int .i64 0, .slice none 0 0, .int .i64 0, .int .i64 0, .int .i64 0, .int .i64 0], .agg #[.int .i64 0, .int .i64 0, .int .i64 0]], []⟩ 8 (by kernel_rfl) (by kernel_rfl) (by kernel_rfl) (by kernel_rfl)) ?_
  intro W base args ds gs before hval0 hW hcnd hsz0 _
  have hval : ∀ (j : Nat) t v, Try.f7.params[j]? = some t → args[j]? = some v → Value.okWide Try.prog W .any base t v := hval0
  have hW' := hW
  obtain ⟨p, q, hA0, hV, rfl, hfz, hnd⟩ := hW
  have hA : DataW.TrodAll enc Try.prog W 0 (fun _ => true) true [43, 49] args.toList ds p := hA0
  obtain ⟨v0, v1, d0, d1, p0, p1, rfl, rfl, rfl, h0, h1⟩ := trodAll_two hA
  obtain ⟨rfl, rfl⟩ := trodVars_none hV
  obtain ⟨cs, rfl, _⟩ := okWide_struct und_heap (hval 0 43 v0 rfl rfl)
  obtain ⟨cs1, rfl, _⟩ := okWide_struct und_word (hval 1 49 v1 rfl rfl)
  clear hA0 hval0 hsz0
  have h0k := h0
  have h1k := h1
  obtain ⟨fuel, h0'⟩ := h0
  obtain ⟨fuel1, h1'⟩ := h1
  obtain ⟨x, e, hx⟩ := open_heap h0'
  have e : cs = (hv x.H x.rs x.cs x.gs).toArray := by
    have : cs.toList = hv x.H x.rs x.cs x.gs := e
    rw [← this]
  subst e
  obtain ⟨w, e1, _⟩ := open_word _ _ _ h1'
  have e1 : cs1 = (wv w).toArray := by
    have : cs1.toList = wv w := e1
    rw [← this]
  subst e1
  have hlt0 : ∀ x ∈ p0, x.block < W.heap.size := fun x hx => by simpa using hW'.lt x (by simp [hx])
  have hlt1 : ∀ x ∈ p1, x.block < W.heap.size := fun x hx => by simpa using hW'.lt x (by simp [hx])
  have hq : Fn Try.prog 7 [x.v, wa w] (memOf W) (fun v M' => v = .bool true ∧ (memOf W).le M') := (fnExactResolve_q hx).mono fun v M' ⟨h1, h2⟩ => ⟨h1, by rw [h2]; exact Mem.le_refl _⟩
  refine (row_of hq).mono fun e W' ⟨he, bel⟩ => ?_
  subst he
  have hT0 := Below.trod laid (by kernel_rfl) (of_decide_eq_true (by kernel_rfl)) h0k bel hlt0
  have hT1 := Below.trod laid (by kernel_rfl) (of_decide_eq_true (by kernel_rfl)) h1k bel hlt1
  exact ⟨_, rfl, _, _, _, [], _, [], hW', trodAll_mk1 (shut_bool und_bool _), trodAll_cons_mk hT0 (trodAll_mk1 hT1), rfl, bel.frame _, fun h => by cases h⟩
end Go.Proofs.Ytcmllambknfleaa.E
namespace Go.Proofs.Ytcmllambknfleaa
open Go.ChangeShapes Go.WideShapes Go.ChangeAt Go.RowKit
/-- The row, under a short name, for the claim. -/
theorem fnExactResolve_holds : Rows.FnExactResolveSaid :=
  OpenClaim.holds_of_wide 7 Try.f7 rfl rfl rfl rfl rfl rfl rfl ⟨rfl, rfl, rfl, rfl, rfl⟩ rfl rfl rfl rfl rfl (by kernel_rfl) Try.func7 jfResolve
    (of_decide_eq_true (by kernel_rfl)) (by unfold Func.isWrapper; first | (rw [if_pos (by decide +kernel)]; kernel_rfl) | (rw [if_neg (by decide +kernel)]; exact ⟨rfl, rfl⟩))
    (fun os started H enc _ => E.liftedResolve os started H enc)
end Go.Proofs.Ytcmllambknfleaa
