/- A part of the proof. Conditions: none. -/
import Derived.Test.YtcmllambknfleaaKF7
set_option linter.unusedVariables false
set_option linter.unusedSimpArgs false
set_option maxHeartbeats 4000000
set_option maxRecDepth 100000
namespace Go.Proofs.Ytcmllambknfleaa.E
open Go
open Classical
section
variable {m : Mem} {a : Nat} {x : HX} {w : Word} {i k n : Int} {mv : Bool}
theorem l1formed_q {H : Heap} (hn : n = H.cells.length) : Qt Try.prog 103 [wa w, .int .i64 n] m (.bool (decide (Formed H w))) := by
  refine qt_of (fnA_of (fun h => fn103 (by simp) h) ?_)
  repeat' (first
    | (refine k_L ?_; first | refine a_p rfl ?_ | (refine k_g ?_; first | refine a_gy rfl rfl ?_ | refine a_gn rfl rfl ?_ | (refine a_gd rfl (fun hb => ?_) (fun hb => ?_) <;> try (exfalso; omega))) | (refine k_bx ?_; refine a_bx rfl rfl ?_))
    | refine a_n ?_
    | (refine k_V ?_; first | refine v_rv ?_ | refine v_seq ?_ | refine v_reg ?_ | refine v_bs ?_ | refine v_ret ?_ | refine v_skip ?_ | (refine v_cd rfl (fun hb => ?_) (fun hb => ?_) <;> try (exfalso; omega)))
    | refine s_r ?_
    | refine b_r ?_)
  all_goals first | refine q_B (fun _ _ => rfl) ?_ | skip
  all_goals (subst hn; simp_all [Formed])
  all_goals omega
theorem l1used_q (h : Has m (hp a x)) (h0 : 0 ≤ i) (h1 : i < x.H.cells.length) : Qt Try.prog 134 [ptr a, .int .i64 i] m (.bool (decide ((x.H.getC i).state = 1))) := by
  rw [x.len] at h1
  obtain ⟨y, gy, gc⟩ := HX.atI (x := x) h0 h1
  refine qt_of (fnA_of (fun h => fn134 (by simp) h) ?_)
  repeat' (first
    | (refine k_L ?_; first | refine a_p rfl ?_ | (refine k_l ?_; refine g_l rfl ?_) | (refine k_i ?_; refine g_i rfl rfl ?_))
    | refine a_n ?_
    | (refine k_V ?_; first | refine v_seq ?_ | refine v_reg ?_ | refine v_ret ?_))
  refine q_B (fun _ _ => rfl) ?_
  rw [gc]; simp
theorem l1doomed_q (h : Has m (hp a x)) (h0 : 0 ≤ i) (h1 : i < x.H.cells.length) : Qt Try.prog 137 [ptr a, .int .i64 i] m (.bool (decide (Doomed x.H i))) := by
  have h1' := h1
  rw [x.len] at h1
  obtain ⟨y, gy, gc⟩ := HX.atI (x := x) h0 h1
  refine qt_of (fnA_of (fun h => fn137 (by simp) h) ?_)
  repeat' (first
    | (refine k_L ?_; first | refine a_p rfl ?_ | (refine k_g ?_; first | refine a_gy rfl rfl ?_ | refine a_gn rfl rfl ?_ | (refine a_gd rfl (fun hb => ?_) (fun hb => ?_) <;> try (exfalso; omega))) | (refine k_l ?_; refine g_l rfl ?_) | (refine k_i ?_; refine g_i rfl rfl ?_) | (refine k_c ?_; refine a_cq rfl (fun m hm => l1used_q (i := i) (has_g h hm) h0 h1') ?_))
    | refine a_n ?_
    | (refine k_V ?_; first | refine v_seq ?_ | refine v_reg ?_ | refine v_ret ?_))
  all_goals refine q_B (fun _ _ => rfl) ?_
  all_goals (unfold Doomed; simp only [HX.H] at *; simp_all [HX.hdr, Hdr.s_room, Hdr.s_used, Hdr.s_born, Hdr.s_phase, Hdr.s_hand, Hdr.s_sub, Hdr.s_per, Hdr.s_start, Hdr.s_rounds, Hdr.s_forced, Hdr.s_rd, Hdr.s_cd, Hdr.s_gd])
  all_goals omega
theorem l1leads_q (h : Has m (hp a x)) : Qt Try.prog 136 [ptr a, wa w, .bool mv] m (.bool (decide (Formed x.H w ∧ LeadsWell x.H w (mv = true)))) := by
  have hl := x.len
  by_cases hf : Formed x.H w
  · by_cases hk : w.kind = 2
    · have hat := hf.at hk
      have hat' := hat
      rw [x.len] at hat
      obtain ⟨y, gy, gc⟩ := HX.atI (x := x) hat.1 hat.2
      refine qt_of (fnA_of (fun h => fn136 (by simp) h) ?_)
      repeat' (first
        | (refine k_L ?_; first | refine a_p rfl ?_ | (refine k_g ?_; first | refine a_gy rfl rfl ?_ | refine a_gn rfl rfl ?_ | (refine a_gd rfl (fun hb => ?_) (fun hb => ?_) <;> try (exfalso; omega))) | (refine k_l ?_; refine g_l rfl ?_) | (refine k_i ?_; refine g_i rfl rfl ?_) | (refine k_ls ?_; refine g_ls rfl ?_) | (refine k_st ?_; refine g_sw rfl rfl rfl rfl (Nat.le_of_ble_eq_true rfl) ?_) | (refine k_al ?_; refine a_al ?_) | (refine k_bx ?_; refine a_bx rfl rfl ?_) | (refine k_q ?_; refine a_q rfl (fun m hm => l1formed_q (H := x.H) (by rw [hl]; rfl)) ?_) | (refine k_c ?_; refine a_cq rfl (fun m hm => l1doomed_q (i := w.at_) (has_g h hm) hat'.1 hat'.2) ?_))
        | refine a_n ?_
        | (refine k_V ?_; first | refine v_rv ?_ | refine v_seq ?_ | refine v_reg ?_ | refine v_dreg ?_ | refine v_ret ?_ | refine v_skip ?_ | (refine v_cd rfl (fun hb => ?_) (fun hb => ?_) <;> try (exfalso; omega)) | (refine v_cn rfl (fun hb => ?_) (fun hb => ?_) <;> try (exfalso; omega)) | (refine v_cnd rfl (fun hb => ?_) (fun hb => ?_) <;> try (exfalso; omega)))
        | refine s_r ?_
        | refine sk_zero ?_
        | refine sk_succ ?_
        | refine wk_nil ?_
        | refine wk_cons ?_)
      all_goals refine q_B (fun _ _ => rfl) ?_
      all_goals (unfold LeadsWell; simp_all)
    · refine qt_of (fnA_of (fun h => fn136 (by simp) h) ?_)
      repeat' (first
        | (refine k_L ?_; first | refine a_p rfl ?_ | (refine k_l ?_; refine g_l rfl ?_) | (refine k_bx ?_; refine a_bx rfl rfl ?_) | (refine k_q ?_; refine a_q rfl (fun m hm => l1formed_q (H := x.H) (by rw [hl]; rfl)) ?_))
        | refine a_n ?_
        | (refine k_V ?_; first | refine v_rv ?_ | refine v_seq ?_ | refine v_reg ?_ | refine v_dreg ?_ | refine v_skip ?_ | (refine v_cn rfl (fun hb => ?_) (fun hb => ?_) <;> try (exfalso; omega)) | (refine v_cnd rfl (fun hb => ?_) (fun hb => ?_) <;> try (exfalso; omega)))
        | refine s_r ?_)
      all_goals first | exact absurd ‹w.kind = 2› hk | exact absurd hf ‹_› | skip
      all_goals refine q_B (fun _ _ => rfl) ?_
      all_goals (unfold LeadsWell; simp_all)
  · refine qt_of (fnA_of (fun h => fn136 (by simp) h) ?_)
    repeat' (first
      | (refine k_L ?_; first | refine a_p rfl ?_ | (refine k_l ?_; refine g_l rfl ?_) | (refine k_bx ?_; refine a_bx rfl rfl ?_) | (refine k_q ?_; refine a_q rfl (fun m hm => l1formed_q (H := x.H) (by rw [hl]; rfl)) ?_))
      | refine a_n ?_
      | (refine k_V ?_; first | refine v_rv ?_ | refine v_seq ?_ | refine v_reg ?_ | refine v_dreg ?_ | refine v_skip ?_ | (refine v_cn rfl (fun hb => ?_) (fun hb => ?_) <;> try (exfalso; omega)) | (refine v_cnd rfl (fun hb => ?_) (fun hb => ?_) <;> try (exfalso; omega)))
      | refine s_r ?_)
    all_goals first | exact absurd ‹Formed x.H w› hf | skip
    refine q_B (fun _ _ => rfl) ?_
    simp [hf]
theorem l1mended_q (h : Has m (hp a x)) : Qt Try.prog 138 [ptr a, .int .i64 i, .int .i64 k] m (.bool (decide (Mended x.H i k))) := by
  refine qt_of (fnA_of (fun h => fn138 (by simp) h) ?_)
  repeat' (first
    | (refine k_L ?_; first | refine a_p rfl ?_ | (refine k_g ?_; first | refine a_gy rfl rfl ?_ | refine a_gn rfl rfl ?_ | refine a_gu rfl ?_ | (refine a_gd rfl (fun hb => ?_) (fun hb => ?_) <;> try (exfalso; omega))) | (refine k_l ?_; refine g_l rfl ?_))
    | refine a_n ?_
    | (refine k_V ?_; first | refine v_rv ?_ | refine v_seq ?_ | refine v_reg ?_ | refine v_bs ?_ | refine v_ret ?_ | refine v_skip ?_ | (refine v_cd rfl (fun hb => ?_) (fun hb => ?_) <;> try (exfalso; omega)))
    | refine s_r ?_
    | refine b_r ?_)
  all_goals refine q_B (fun _ _ => rfl) ?_
  all_goals (unfold Mended; simp only [HX.H] at *; simp_all [HX.hdr, Hdr.s_room, Hdr.s_used, Hdr.s_born, Hdr.s_phase, Hdr.s_hand, Hdr.s_sub, Hdr.s_per, Hdr.s_start, Hdr.s_rounds, Hdr.s_forced, Hdr.s_rd, Hdr.s_cd, Hdr.s_gd])
  all_goals omega
theorem l1white_q (h : Has m (hp a x)) (hf : Formed x.H w) : Qt Try.prog 139 [ptr a, wa w] m (.bool (decide (White x.H w))) := by
  by_cases hk : w.kind = 2
  · have hat := hf.at hk
    rw [x.len] at hat
    obtain ⟨y, gy, gc⟩ := HX.atI (x := x) hat.1 hat.2
    refine qt_of (fnA_of (fun h => fn139 (by simp) h) ?_)
    repeat' (first
      | (refine k_L ?_; first | refine a_p rfl ?_ | (refine k_g ?_; first | refine a_gy rfl rfl ?_ | (refine a_gd rfl (fun hb => ?_) (fun hb => ?_) <;> try (exfalso; omega))) | (refine k_l ?_; refine g_l rfl ?_) | (refine k_i ?_; refine g_i rfl rfl ?_) | (refine k_bx ?_; refine a_bx rfl rfl ?_))
      | refine a_n ?_
      | (refine k_V ?_; first | refine v_seq ?_ | refine v_reg ?_ | refine v_dreg ?_ | refine v_ret ?_))
    all_goals refine q_B (fun _ _ => rfl) ?_
    all_goals (unfold White; simp_all)
  · refine qt_of (fnA_of (fun h => fn139 (by simp) h) ?_)
    repeat' (first
      | (refine k_L ?_; first | refine a_p rfl ?_ | (refine k_g ?_; first | refine a_gn rfl rfl ?_ | (refine a_gd rfl (fun hb => ?_) (fun hb => ?_) <;> try (exfalso; omega))) | (refine k_bx ?_; refine a_bx rfl rfl ?_))
      | refine a_n ?_
      | (refine k_V ?_; first | refine v_seq ?_ | refine v_reg ?_ | refine v_dreg ?_ | refine v_ret ?_))
    all_goals refine q_B (fun _ _ => rfl) ?_
    all_goals (unfold White; simp_all)
theorem l1resolve_q (h : Has m (hp a x)) (hf : w.kind = 2 → 0 ≤ w.at_ ∧ w.at_ < x.H.cells.length) : Qt Try.prog 104 [ptr a, wa w] m (wa (x.H.lead w)) := by
  unfold Heap.lead
  by_cases hk : w.kind = 2
  · have hat := hf hk
    rw [x.len] at hat
    obtain ⟨y, gy, gc⟩ := HX.atI (x := x) hat.1 hat.2
    refine qt_of (fnA_of (fun h => fn104 (by simp) h) ?_)
    repeat' (first
      | (refine k_L ?_; first | refine a_p rfl ?_ | (refine k_g ?_; first | refine a_gy rfl rfl ?_ | (refine a_gd rfl (fun hb => ?_) (fun hb => ?_) <;> try (exfalso; omega))) | (refine k_l ?_; refine g_l rfl ?_) | (refine k_i ?_; refine g_i rfl rfl ?_) | (refine k_st ?_; refine g_sw rfl rfl rfl rfl (Nat.le_of_ble_eq_true rfl) ?_) | (refine k_al ?_; refine a_al ?_) | (refine k_bx ?_; refine a_bx rfl rfl ?_))
      | refine a_n ?_
      | (refine k_V ?_; first | refine v_seq ?_ | refine v_reg ?_ | refine v_dreg ?_ | refine v_ret ?_ | refine v_skip ?_ | (refine v_cd rfl (fun hb => ?_) (fun hb => ?_) <;> try (exfalso; omega)))
      | refine s_r ?_
      | refine sk_zero ?_
      | refine sk_succ ?_
      | refine wk_nil ?_
      | refine wk_cons ?_)
    · refine fa_q (by simp) (fun _ _ => rfl) ?_
      rw [if_pos ⟨hk, by rw [gc]; assumption⟩, gc]; rfl
    all_goals refine fa_q (by simp) (fun _ _ => rfl) ?_
    all_goals (rw [if_neg (by rw [gc]; simp_all)]; rfl)
  · refine qt_of (fnA_of (fun h => fn104 (by simp) h) ?_)
    repeat' (first
      | (refine k_L ?_; first | refine a_p rfl ?_ | (refine k_g ?_; first | refine a_gn rfl rfl ?_ | (refine a_gd rfl (fun hb => ?_) (fun hb => ?_) <;> try (exfalso; omega))) | (refine k_st ?_; refine g_sw rfl rfl rfl rfl (Nat.le_of_ble_eq_true rfl) ?_) | (refine k_al ?_; refine a_al ?_) | (refine k_bx ?_; refine a_bx rfl rfl ?_))
      | refine a_n ?_
      | (refine k_V ?_; first | refine v_seq ?_ | refine v_reg ?_ | refine v_dreg ?_ | refine v_ret ?_ | refine v_skip ?_ | refine v_cf rfl ?_)
      | refine sk_zero ?_
      | refine sk_succ ?_
      | refine wk_nil ?_
      | refine wk_cons ?_)
    refine fa_q (by simp) (fun _ _ => rfl) ?_
    rw [if_neg (by simp_all)]; rfl
end
end Go.Proofs.Ytcmllambknfleaa.E
set_option linter.unusedVariables false
set_option linter.unusedSimpArgs false
set_option maxHeartbeats 8000000
set_option maxRecDepth 100000
namespace Go.Proofs.Ytcmllambknfleaa.E
open Go
open Classical
def Each2 (H : Heap) (i : Nat) (c : Cell) : Prop := (c.state = 0 ∧ Bare c ∧ c.to = 0) ∨ MovedOk H i c ∨ UsedOk H c
theorem l1apart_q {m : Mem} {a : Nat} {x : HX} (h : Has m (hp a x)) (he : ∀ (i : Nat) c, x.H.cells[i]? = some c → Each2 x.H i c) : Qt Try.prog 135 [ptr a] m (.bool (decide (R2 x.H))) := by
  have hb := h.lens
  have hl := x.len
  have hnc : (x.hdr.nc : Int) = x.xs.length := rfl
  refine qt_of (fnA_of (fun h => fn135 (by simp) h) ?_)
  repeat' (first
    | (refine k_L ?_; first | refine a_p rfl ?_ | (refine k_l ?_; refine g_l rfl ?_))
    | refine a_n ?_
    | (refine k_V ?_; first | refine v_seq ?_ | refine v_reg ?_)
    | refine s_n ?_)
  refine g_range x.xs.length (fun _ : Unit => [(0, .v (ptr a)), (10, .v (.slice x.cd.a x.xs.length x.cd.cap))]) (fun _ => [ro m]) (fun i _ => R2p x.H i) () (R2p.zero _) (fun i _ hi hv => ?_) (fun _ hv => ?_)
  · obtain ⟨y, gy, gc⟩ := HX.at hi
    have hbp : y.c.pairs.length ≤ 140737488355328 := by obtain ⟨b, l, s⟩ := h; exact (kn_t (kn_t (kn_h (kb_cp gy))) : Kn (hp a x) _).out b s
    have hE := he i _ gc
    refine v_seq ?_
    repeat' (first
      | (refine k_L ?_; first | refine a_p rfl ?_ | (refine k_i ?_; refine g_i rfl rfl ?_) | (refine k_ls ?_; refine g_ls rfl ?_) | (refine k_st ?_; refine g_sw rfl rfl rfl rfl (Nat.le_of_ble_eq_true rfl) ?_) | (refine k_al ?_; refine a_al ?_))
      | refine a_n ?_
      | (refine k_V ?_; refine v_reg ?_)
      | refine s_n ?_
      | refine sk_zero ?_
      | refine sk_succ ?_
      | refine wk_nil ?_
      | refine wk_cons ?_)
    refine v_seq ?_
    refine v_seq ?_
    repeat' (first
      | (refine k_L ?_; refine a_p rfl ?_)
      | refine a_n ?_
      | (refine k_V ?_; first | refine v_reg ?_ | refine v_exit ?_ | refine v_skip ?_ | (refine v_cd rfl (fun hb => ?_) (fun hb => ?_) <;> try (exfalso; omega)))
      | refine s_n ?_
      | refine s_e ?_)
    · exact r_ct () (hv.next gc hE (fun s => by omega) (fun s => by omega))
    have hs0 : ¬ y.c.state = 0 := ‹_›
    refine v_seq ?_
    repeat' (first
      | (refine k_L ?_; refine a_p rfl ?_)
      | refine a_n ?_
      | (refine k_V ?_; refine v_reg ?_)
      | refine s_n ?_)
    refine v_blk ?_
    have key : ∀ (k : Nat) (z : CS), k < i → x.H.cells[k]? = some z.c → ((z.c.state = y.c.state ∧ z.c.born = y.c.born ∧ z.c.to = y.c.to) ↔ (y.c.state = 1 ∧ z.c.state = 1 ∧ z.c.born = y.c.born) ∨ (y.c.state = 2 ∧ z.c.state = 2 ∧ z.c.to = y.c.to)) := by
      intro k z hk hz
      have hz2 := he k _ hz
      rcases hE with h1 | h1 | h1
      · exact absurd h1.1 hs0
      · have e1 := h1.1; have e2 := h1.2.1.2.2.2.1
        rcases hz2 with h2 | h2 | h2
        · have := h2.1; simp [e1, this]
        · have e3 := h2.1; have e4 := h2.2.1.2.2.2.1; simp [e1, e2, e3, e4]
        · have := h2.1; simp [e1, this]
      · have e1 := h1.1; have e2 := h1.2.2.2.2.2.2.1
        rcases hz2 with h2 | h2 | h2
        · have := h2.1; simp [e1, this]
        · have := h2.1; simp [e1, this]
        · have e3 := h2.1; have e4 := h2.2.2.2.2.2.2.1; simp [e1, e2, e3, e4]
    refine v_loop (fun k : Nat => [(0, .v (ptr a)), (3, .v (.int .i64 i)), (4, .box (csw y)), (5, .v (.int .i64 k)), (10, .v (.slice x.cd.a x.xs.length x.cd.cap)), (11, .v (.int .i64 x.xs.length)), (12, .v (.int .i64 i))]) (fun _ => [ro m])
      (fun f k => f = i - k ∧ k ≤ i ∧ ∀ (j : Nat) c, j < k → x.H.cells[j]? = some c → ¬ (y.c.state = 1 ∧ c.state = 1 ∧ c.born = y.c.born) ∧ ¬ (y.c.state = 2 ∧ c.state = 2 ∧ c.to = y.c.to)) ⟨_, 0, ⟨rfl, rfl, rfl, rfl, rfl, rfl, rfl, trivial⟩, Ent.refl _, rfl, by omega, fun j c hj => by omega⟩ ?_
    rintro f k ⟨rfl, hk, hw⟩
    by_cases hki : k < i
    · obtain ⟨z, gz, gzc⟩ := HX.at (x := x) (i := k) (by omega)
      have hkey := key k z hki gzc
      have stp : ¬ (z.c.state = y.c.state ∧ z.c.born = y.c.born ∧ z.c.to = y.c.to) → ∀ (j : Nat) c, j < k + 1 → x.H.cells[j]? = some c → ¬ (y.c.state = 1 ∧ c.state = 1 ∧ c.born = y.c.born) ∧ ¬ (y.c.state = 2 ∧ c.state = 2 ∧ c.to = y.c.to) := by
        intro hn j c hj hc
        by_cases e : j = k
        · subst e; rw [gzc] at hc; cases hc
          rw [hkey, not_or] at hn; exact hn
        · exact hw j c (by omega) hc
      repeat' (first
        | (refine k_L ?_; first | (refine k_ad ?_; refine g_ad rfl rfl ?_) | refine a_p rfl ?_ | (refine k_g ?_; first | refine a_gy rfl rfl ?_ | refine a_gn rfl rfl ?_ | (refine a_gd rfl (fun hb => ?_) (fun hb => ?_) <;> try (exfalso; omega))) | (refine k_l ?_; refine g_l rfl ?_) | (refine k_i ?_; refine g_i rfl rfl ?_) | (refine k_ls ?_; refine g_ls rfl ?_) | (refine k_st ?_; refine g_sw rfl rfl rfl rfl (Nat.le_of_ble_eq_true rfl) ?_) | (refine k_al ?_; refine a_al ?_))
        | refine a_n ?_
        | (refine k_V ?_; first | refine v_rv ?_ | refine v_seq ?_ | refine v_reg ?_ | refine v_bs ?_ | refine v_skip ?_ | refine v_cf rfl ?_ | (refine v_cd rfl (fun hb => ?_) (fun hb => ?_) <;> try (exfalso; omega)))
        | refine s_n ?_
        | refine s_r ?_
        | refine b_r ?_
        | refine r_rt ?_
        | refine sk_zero ?_
        | refine sk_succ ?_
        | refine wk_nil ?_
        | refine wk_cons ?_)
      · refine q_F fun h2 => ?_
        rcases hkey.1 ⟨‹_›, ‹_›, ‹_›⟩ with ⟨s1, s2, e⟩ | ⟨s1, s2, e⟩
        · exact h2.born k i _ _ gzc gc hki s2 s1 e
        · exact h2.to k i _ _ gzc gc hki s2 s1 e
      all_goals refine ⟨_, k + 1, ?_, ⟨rfl, rfl, rfl, rfl, rfl, rfl, rfl, trivial⟩, Ent.refl _, rfl, by omega, stp ?_⟩
      all_goals first | omega | (intro hh; exact absurd hh.1 ‹_›) | (intro hh; exact absurd hh.2.1 ‹_›) | (intro hh; exact absurd hh.2.2 ‹_›)
    · repeat' (first
        | (refine k_L ?_; refine a_p rfl ?_)
        | refine a_n ?_
        | (refine k_V ?_; first | refine v_seq ?_ | refine v_reg ?_ | refine v_exit ?_ | (refine v_cd rfl (fun hb => ?_) (fun hb => ?_) <;> try (exfalso; omega)))
        | refine s_e ?_
        | refine b_e ?_)
      refine r_nx () (hv.next gc hE (fun s => ?_) (fun s => ?_))
      · rintro ⟨j, c, hj, hc, s', e⟩; exact (hw j c (by omega) hc).1 ⟨s, s', e⟩
      · rintro ⟨j, c, hj, hc, s', e⟩; exact (hw j c (by omega) hc).2 ⟨s, s', e⟩
  · repeat' (first
      | refine a_n ?_
      | (refine k_V ?_; refine v_rv ?_))
    exact q_T (R2p.all.1 (by rw [hl]; exact hv))
end Go.Proofs.Ytcmllambknfleaa.E
set_option linter.unusedVariables false
set_option linter.unusedSimpArgs false
set_option maxHeartbeats 8000000
set_option maxRecDepth 100000
namespace Go.Proofs.Ytcmllambknfleaa.E
open Go
open Classical
theorem l1cells_q {m : Mem} {a : Nat} {x : HX} (h : Has m (hp a x)) : Qt Try.prog 85 [ptr a] m (.bool (decide (R2 x.H))) := by
  have hb := h.lens
  have hl := x.len
  have hnc : (x.hdr.nc : Int) = x.xs.length := rfl
  refine qt_of (fnA_of (fun h => fn85 (by simp) h) ?_)
  repeat' (first
    | (refine k_L ?_; first | refine a_p rfl ?_ | (refine k_l ?_; refine g_l rfl ?_))
    | refine a_n ?_
    | (refine k_V ?_; first | refine v_seq ?_ | refine v_reg ?_)
    | refine s_n ?_)
  refine g_range x.xs.length (fun _ : Unit => [(0, .v (ptr a)), (10, .v (.slice x.cd.a x.xs.length x.cd.cap))]) (fun _ => [ro m]) (fun i _ => ∀ (j : Nat) c, j < i → x.H.cells[j]? = some c → Each2 x.H j c) () (fun j c hj => by omega) (fun i _ hi hv => ?_) (fun _ hv => ?_)
  · obtain ⟨y, gy, gc⟩ := HX.at hi
    have hbp : y.c.pairs.length ≤ 140737488355328 := by obtain ⟨b, l, s⟩ := h; exact (kn_t (kn_t (kn_h (kb_cp gy))) : Kn (hp a x) _).out b s
    have nx : Each2 x.H i y.c → ∀ (j : Nat) c, j < i + 1 → x.H.cells[j]? = some c → Each2 x.H j c := by
      intro hp j c hj hc
      by_cases e : j = i
      · subst e; rw [gc] at hc; cases hc; exact hp
      · exact hv j c (by omega) hc
    refine v_seq ?_
    repeat' (first
      | (refine k_L ?_; first | refine a_p rfl ?_ | (refine k_i ?_; refine g_i rfl rfl ?_) | (refine k_ls ?_; refine g_ls rfl ?_) | (refine k_st ?_; refine g_sw rfl rfl rfl rfl (Nat.le_of_ble_eq_true rfl) ?_) | (refine k_al ?_; refine a_al ?_))
      | refine a_n ?_
      | (refine k_V ?_; refine v_reg ?_)
      | refine s_n ?_
      | refine sk_zero ?_
      | refine sk_succ ?_
      | refine wk_nil ?_
      | refine wk_cons ?_)
    refine g_cut (fun _ : Unit => [(0, .v (ptr a)), (3, .v (.int .i64 i)), (4, .box (csw y)), (5, .v (.bool (decide (Bare y.c)))), (10, .v (.slice x.cd.a x.xs.length x.cd.cap)), (11, .v (.int .i64 x.xs.length)), (12, .v (.int .i64 i))]) (fun _ => [ro m]) (fun _ => True) ?_ (fun _ _ => ?_)
    · repeat' (first
        | (refine k_L ?_; first | refine a_p rfl ?_ | (refine k_g ?_; first | refine a_gy rfl rfl ?_ | refine a_gn rfl rfl ?_ | (refine a_gd rfl (fun hb => ?_) (fun hb => ?_) <;> try (exfalso; omega))))
        | refine a_n ?_
        | (refine k_V ?_; refine v_reg ?_)
        | refine s_n ?_)
      · refine j_i () trivial (hl := ⟨rfl, rfl, rfl, ?_, rfl, rfl, rfl, trivial⟩)
        show SV.v (.bool _) = _
        congr 1
        refine bool_dec ?_
        simp_all [Bare]
      all_goals refine j_i () trivial (hl := ⟨rfl, rfl, rfl, ?_, rfl, rfl, rfl, trivial⟩)
      all_goals (show SV.v (.bool false) = _; congr 1; exact ret_f (by simp_all [Bare]))
    refine v_seq ?_
    repeat' (first
      | (refine k_L ?_; refine a_p rfl ?_)
      | refine a_n ?_
      | (refine k_V ?_; first | refine v_reg ?_ | refine v_bs ?_))
    refine v_seq ?_
    repeat' (first
      | (refine k_L ?_; refine a_p rfl ?_)
      | refine a_n ?_
      | (refine k_V ?_; refine v_reg ?_)
      | refine s_n ?_)
    refine v_ce rfl (fun hs0 => ?_) (fun hs0 => ?_)
    · repeat' (first
        | (refine k_L ?_; first | refine a_p rfl ?_ | (refine k_g ?_; first | refine a_gy rfl rfl ?_ | refine a_gn rfl rfl ?_ | (refine a_gnd rfl (fun hb => ?_) (fun hb => ?_) <;> try (exfalso; omega))))
        | refine a_n ?_
        | (refine k_V ?_; first | refine v_rv ?_ | refine v_seq ?_ | refine v_reg ?_ | refine v_skip ?_ | refine v_ct rfl ?_ | (refine v_cn rfl (fun hb => ?_) (fun hb => ?_) <;> try (exfalso; omega)))
        | refine s_r ?_
        | refine b_n ?_
        | refine b_r ?_
        | refine r_rt ?_)
      · exact q_F fun h2 => absurd (h2.free gc hs0).1 ‹_›
      · exact q_F fun h2 => absurd (h2.free gc hs0).2 ‹_›
      · exact r_nx () (nx (.inl ⟨hs0, ‹_›, ‹_›⟩))
    refine v_seq ?_
    repeat' (first
      | (refine k_L ?_; refine a_p rfl ?_)
      | refine a_n ?_
      | (refine k_V ?_; refine v_reg ?_)
      | refine s_n ?_)
    refine v_ce rfl (fun hs2 => ?_) (fun hs2 => ?_)
    · by_cases hto : 0 ≤ y.c.to ∧ y.c.to < i
      · obtain ⟨z, gz, gzc⟩ := HX.atI (x := x) hto.1 (by omega)
        refine v_seq ?_
        refine v_seq ?_
        repeat' (first
          | (refine k_L ?_; first | refine a_p rfl ?_ | (refine k_g ?_; first | refine a_gy rfl rfl ?_ | refine a_gn rfl rfl ?_ | (refine a_gd rfl (fun hb => ?_) (fun hb => ?_) <;> try (exfalso; omega)) | (refine a_gnd rfl (fun hb => ?_) (fun hb => ?_) <;> try (exfalso; omega))) | (refine k_l ?_; refine g_l rfl ?_) | (refine k_c ?_; refine a_cq rfl (fun m hm => l1used_q (i := y.c.to) (has_g h hm) hto.1 (by omega)) ?_))
          | refine a_n ?_
          | (refine k_V ?_; first | refine v_rv ?_ | refine v_reg ?_ | refine v_skip ?_ | refine v_ct rfl ?_ | (refine v_cn rfl (fun hb => ?_) (fun hb => ?_) <;> try (exfalso; omega)))
          | refine s_n ?_
          | refine s_r ?_
          | refine b_r ?_
          | refine r_rt ?_)
        · exact q_F fun h2 => absurd (h2.moved gc hs2).2.1 ‹_›
        · exact q_F fun h2 => absurd (h2.moved gc hs2).2.2.1 (by show ¬ 4 ≤ x.hdr.phase; omega)
        · exact q_F fun h2 => absurd (h2.moved gc hs2).2.2.2.2.1 ‹_›
        have hzs : (x.H.getC y.c.to).state = 1 := ‹_›
        have hbare : Bare y.c := ‹_›
        have hph : ¬ x.hdr.phase < 4 := ‹_›
        refine v_seq ?_
        repeat' (first
          | (refine k_L ?_; refine a_p rfl ?_)
          | refine a_n ?_
          | (refine k_V ?_; refine v_reg ?_)
          | refine s_n ?_)
        refine v_blk ?_
        refine v_loop (fun k : Nat => [(0, .v (ptr a)), (4, .box (csw y)), (6, .v (.int .i64 k)), (10, .v (.slice x.cd.a x.xs.length x.cd.cap)), (11, .v (.int .i64 x.xs.length)), (12, .v (.int .i64 i))]) (fun _ => [ro m])
          (fun f k => f = y.c.to.toNat - k ∧ (k : Int) ≤ y.c.to ∧ (x.H.phase = 4 → ∀ j : Int, 0 ≤ j → j < k → (x.H.getC j).state ≠ 0)) ⟨_, 0, ⟨rfl, rfl, rfl, rfl, rfl, rfl, trivial⟩, Ent.refl _, rfl, by omega, fun _ j _ _ => by omega⟩ ?_
        rintro f k ⟨rfl, hk, hw⟩
        have done : (x.H.phase = 4 → ∀ j : Int, 0 ≤ j → j < y.c.to → (x.H.getC j).state ≠ 0) → Each2 x.H i y.c := fun hd =>
          .inr (.inl ⟨hs2, hbare, by show 4 ≤ x.hdr.phase; omega, hto, hzs, hd⟩)
        by_cases hkt : (k : Int) < y.c.to
        · obtain ⟨u, gu, guc⟩ := HX.atI (x := x) (i := (k : Int)) (by omega) (by omega)
          repeat' (first
            | (refine k_L ?_; first | (refine k_ad ?_; refine g_ad rfl rfl ?_) | refine a_p rfl ?_ | (refine k_g ?_; first | refine a_gy rfl rfl ?_ | (refine a_gd rfl (fun hb => ?_) (fun hb => ?_) <;> try (exfalso; omega))) | (refine k_l ?_; refine g_l rfl ?_) | (refine k_i ?_; refine g_i rfl rfl ?_))
            | refine a_n ?_
            | (refine k_V ?_; first | refine v_rv ?_ | refine v_seq ?_ | refine v_reg ?_ | refine v_bs ?_ | refine v_exit ?_ | refine v_skip ?_ | (refine v_cd rfl (fun hb => ?_) (fun hb => ?_) <;> try (exfalso; omega)))
            | refine s_n ?_
            | refine s_r ?_
            | refine s_e ?_
            | refine b_n ?_
            | refine b_r ?_
            | refine b_e ?_
            | refine r_rt ?_)
          · exact q_F fun h2 => (h2.moved gc hs2).2.2.2.2.2 ‹_› k (by omega) hkt (by rw [guc]; assumption)
          · refine ⟨_, k + 1, ?_, ⟨rfl, rfl, rfl, rfl, rfl, rfl, trivial⟩, Ent.refl _, rfl, by omega, fun hp j j0 j1 => ?_⟩
            · omega
            · by_cases e : j = k
              · subst e; rw [guc]; assumption
              · exact hw hp j j0 (by omega)
          · exact r_nx () (nx (done fun hp => absurd hp ‹_›))
        · repeat' (first
            | (refine k_L ?_; first | refine a_p rfl ?_ | (refine k_g ?_; first | refine a_gn rfl rfl ?_ | (refine a_gd rfl (fun hb => ?_) (fun hb => ?_) <;> try (exfalso; omega))))
            | refine a_n ?_
            | (refine k_V ?_; first | refine v_seq ?_ | refine v_reg ?_ | refine v_exit ?_ | refine v_cf rfl ?_)
            | refine s_e ?_
            | refine b_n ?_
            | refine b_e ?_)
          exact r_nx () (nx (done fun hp j j0 j1 => hw hp j j0 (by omega)))
      · repeat' (first
          | (refine k_L ?_; first | refine a_p rfl ?_ | (refine k_g ?_; first | refine a_gy rfl rfl ?_ | refine a_gn rfl rfl ?_ | (refine a_gd rfl (fun hb => ?_) (fun hb => ?_) <;> try (exfalso; omega)) | (refine a_gnd rfl (fun hb => ?_) (fun hb => ?_) <;> try (exfalso; omega))) | (refine k_l ?_; refine g_l rfl ?_))
          | refine a_n ?_
          | (refine k_V ?_; first | refine v_rv ?_ | refine v_seq ?_ | refine v_reg ?_ | refine v_ct rfl ?_)
          | refine s_r ?_
          | refine b_r ?_
          | refine r_rt ?_)
        · exact q_F fun h2 => absurd (h2.moved gc hs2).2.1 ‹_›
        · exact q_F fun h2 => absurd (h2.moved gc hs2).2.2.1 (by show ¬ 4 ≤ x.hdr.phase; omega)
        all_goals exact q_F fun h2 => hto (h2.moved gc hs2).2.2.2.1
    refine v_seq ?_
    repeat' (first
      | (refine k_L ?_; refine a_p rfl ?_)
      | refine a_n ?_
      | (refine k_V ?_; refine v_reg ?_)
      | refine s_n ?_)
    refine v_ce rfl (fun hs1 => ?_) (fun hs1 => ?_)
    · repeat' (first
        | (refine k_L ?_; first | refine a_p rfl ?_ | (refine k_g ?_; first | refine a_gy rfl rfl ?_ | refine a_gn rfl rfl ?_ | (refine a_gne rfl (fun hb => ?_) (fun hb => ?_) <;> try (exfalso; omega)) | (refine a_gnd rfl (fun hb => ?_) (fun hb => ?_) <;> try (exfalso; omega))) | (refine k_l ?_; refine g_l rfl ?_) | (refine k_q ?_; refine a_q rfl (fun m hm => spec.l1inQ) ?_))
        | refine a_n ?_
        | (refine k_V ?_; first | refine v_rv ?_ | refine v_seq ?_ | refine v_dreg ?_ | refine v_skip ?_ | refine v_ct rfl ?_ | (refine v_cd rfl (fun hb => ?_) (fun hb => ?_) <;> try (exfalso; omega)))
        | refine s_r ?_
        | refine b_n ?_
        | refine b_r ?_
        | refine r_rt ?_)
      · exact q_F fun h2 => absurd (h2.used gc hs1).2.1 ‹_›
      · exact q_F fun h2 => absurd (h2.used gc hs1).2.2.1 ‹_›
      · exact q_F fun h2 => absurd (h2.used gc hs1).2.2.2.1 ‹_›
      · exact q_F fun h2 => absurd (h2.used gc hs1).2.2.2.2.1 ‹_›
      · exact q_F fun h2 => absurd (h2.used gc hs1).2.2.2.2.2.1 ‹_›
      · exact q_F fun h2 => absurd (h2.used gc hs1).2.2.2.2.2.2.1 ‹_›
      · exact q_F fun h2 => absurd (h2.used gc hs1).2.2.2.2.2.2.2 (by omega)
      · exact r_nx () (nx (.inr (.inr ⟨hs1, ‹_›, ‹_›, ‹_›, ‹_›, ‹_›, ‹_›, by omega⟩)))
    · repeat' (first
        | refine a_n ?_
        | (refine k_V ?_; refine v_rv ?_)
        | refine s_r ?_
        | refine b_r ?_
        | refine r_rt ?_)
      exact q_F fun h2 => by
        rcases h2.each i _ gc with h | h | h
        · exact hs0 h.1
        · exact hs2 h.1
        · exact hs1 h.1
  · repeat' (first
      | (refine k_L ?_; first | refine a_p rfl ?_ | (refine k_c ?_; refine a_cq rfl (fun m hm => l1apart_q (has_g h hm) (fun i c hc => hv i c (by have := (List.getElem?_eq_some_iff.1 hc).1; omega) hc)) ?_))
      | refine a_n ?_
      | (refine k_V ?_; first | refine v_seq ?_ | refine v_reg ?_ | refine v_ret ?_))
    exact fa_q (by simp) (fun _ _ => rfl) rfl
end Go.Proofs.Ytcmllambknfleaa.E
set_option linter.unusedVariables false
set_option linter.unusedSimpArgs false
set_option maxHeartbeats 8000000
set_option maxRecDepth 100000
namespace Go.Proofs.Ytcmllambknfleaa.E
open Go
open Classical
theorem l1words_q {m : Mem} {a : Nat} {x : HX} (h : Has m (hp a x)) : Qt Try.prog 87 [ptr a] m (.bool (decide (R4 x.H))) := by
  have hb := h.lens
  have hl := x.len
  have hnc : (x.hdr.nc : Int) = x.H.cells.length := by rw [hl]; rfl
  refine qt_of (fnA_of (fun h => fn87 (by simp) h) ?_)
  repeat' (first
    | (refine k_L ?_; first | refine a_p rfl ?_ | (refine k_l ?_; refine g_l rfl ?_))
    | refine a_n ?_
    | (refine k_V ?_; first | refine v_seq ?_ | refine v_reg ?_)
    | refine s_n ?_)
  refine g_range x.regs.length (fun _ : Unit => [(0, .v (ptr a)), (14, .v (.slice x.rd.a x.regs.length x.rd.cap))]) (fun _ => [ro m]) (fun i _ => ∀ (j : Nat) w, j < i → x.regs[j]? = some w → Formed x.H w ∧ LeadsWell x.H w False) () (fun j c hj => by omega) (fun i _ hi hv => ?_) (fun _ hr => ?_)
  · obtain ⟨w, gw⟩ : ∃ w, x.regs[i]? = some w := ⟨_, List.getElem?_eq_getElem hi⟩
    have lw := leadsWell_b (H := x.H) (w := w) (b := false) (p := False) (by simp)
    repeat' (first
      | (refine k_L ?_; first | refine a_p rfl ?_ | (refine k_i ?_; refine g_i rfl rfl ?_) | (refine k_ls ?_; refine g_ls rfl ?_) | (refine k_st ?_; refine g_sw rfl rfl rfl rfl (Nat.le_of_ble_eq_true rfl) ?_) | (refine k_al ?_; refine a_al ?_) | (refine k_c ?_; refine a_cq rfl (fun m hm => l1leads_q (w := w) (has_g h hm)) ?_))
      | refine a_n ?_
      | (refine k_V ?_; first | refine v_rv ?_ | refine v_seq ?_ | refine v_reg ?_ | refine v_skip ?_ | (refine v_cnd rfl (fun hb => ?_) (fun hb => ?_) <;> try (exfalso; omega)))
      | refine s_r ?_
      | refine r_rt ?_
      | refine sk_zero ?_
      | refine sk_succ ?_
      | refine wk_nil ?_
      | refine wk_cons ?_)
    · refine q_F fun h4 => ?_
      have := h4.regs w (List.mem_of_getElem? gw)
      have hn : ¬ (Formed x.H w ∧ LeadsWell x.H w (false = true)) := ‹_›
      exact hn ⟨this.1, lw.2 this.2⟩
    · refine r_nx () (fun j v hj hq => ?_)
      by_cases e : j = i
      · subst e; rw [gw] at hq; cases hq
        have hfl : Formed x.H w ∧ LeadsWell x.H w (false = true) := ‹_›
        exact ⟨hfl.1, lw.1 hfl.2⟩
      · exact hv j v (by omega) hq
  repeat' (first
    | (refine k_L ?_; first | refine a_p rfl ?_ | (refine k_l ?_; refine g_l rfl ?_))
    | refine a_n ?_
    | (refine k_V ?_; first | refine v_seq ?_ | refine v_reg ?_)
    | refine s_n ?_)
  refine g_range x.xs.length (fun _ : Unit => [(0, .v (ptr a)), (28, .v (.slice x.cd.a x.xs.length x.cd.cap))]) (fun _ => [ro m]) (fun i _ => ∀ (j : Nat) c, j < i → x.H.cells[j]? = some c → OK4 x.H j c) () (fun j c hj => by omega) (fun i _ hi hv => ?_) (fun _ hv => ?_)
  · obtain ⟨y, gy, gc⟩ := HX.at hi
    have hbp : y.c.pairs.length ≤ 140737488355328 := by obtain ⟨b, l, s⟩ := h; exact (kn_t (kn_t (kn_h (kb_cp gy))) : Kn (hp a x) _).out b s
    have hgc : x.H.getC (i : Int) = y.c := by unfold Heap.getC; rw [List.getD_eq_getElem?_getD]; show (x.H.cells[i]?).getD _ = _; rw [gc]; rfl
    refine v_seq ?_
    repeat' (first
      | (refine k_L ?_; first | refine a_p rfl ?_ | (refine k_i ?_; refine g_i rfl rfl ?_) | (refine k_ls ?_; refine g_ls rfl ?_) | (refine k_st ?_; refine g_sw rfl rfl rfl rfl (Nat.le_of_ble_eq_true rfl) ?_) | (refine k_al ?_; refine a_al ?_))
      | refine a_n ?_
      | (refine k_V ?_; refine v_reg ?_)
      | refine s_n ?_
      | refine sk_zero ?_
      | refine sk_succ ?_
      | refine wk_nil ?_
      | refine wk_cons ?_)
    refine v_seq ?_
    repeat' (first
      | (refine k_L ?_; first | refine a_p rfl ?_ | (refine k_c ?_; refine a_cq rfl (fun m hm => l1doomed_q (i := i) (has_g h hm) (by omega) (by omega)) ?_))
      | refine a_n ?_
      | (refine k_V ?_; refine v_reg ?_)
      | refine s_n ?_)
    refine g_cut (fun _ : Unit => [(0, .v (ptr a)), (5, .v (.int .i64 i)), (6, .box (csw y)), (7, .v (.bool (decide (Doomed x.H i)))), (28, .v (.slice x.cd.a x.xs.length x.cd.cap)), (29, .v (.int .i64 x.xs.length)), (30, .v (.int .i64 i))]) (fun _ => [ro m]) (fun _ => Doomed x.H i → ¬ Root y.c) ?_ (fun _ hdr => ?_)
    · repeat' (first
        | (refine k_L ?_; first | refine a_p rfl ?_ | (refine k_g ?_; first | refine a_gy rfl rfl ?_ | refine a_gn rfl rfl ?_ | refine a_gu rfl ?_ | (refine a_gd rfl (fun hb => ?_) (fun hb => ?_) <;> try (exfalso; omega))))
        | refine a_n ?_
        | (refine k_V ?_; first | refine v_rv ?_ | refine v_seq ?_ | refine v_reg ?_ | refine v_skip ?_ | refine v_ct rfl ?_ | refine v_cf rfl ?_ | (refine v_cd rfl (fun hb => ?_) (fun hb => ?_) <;> try (exfalso; omega)))
        | refine s_n ?_
        | refine s_r ?_
        | refine r_rt ?_)
      all_goals first
        | exact q_F fun h4 => h4.roots i _ gc ‹_› ⟨hgc ▸ ‹Doomed x.H i›.2.1, .inl ‹_›⟩
        | exact q_F fun h4 => h4.roots i _ gc ‹_› ⟨hgc ▸ ‹Doomed x.H i›.2.1, .inr ‹_›⟩
        | exact j_i () (fun r1 r2 => absurd r1 ‹_›)
        | exact j_i () (fun r1 r2 => r2.2.elim ‹_› ‹_›)
    by_cases hD : Doomed x.H i
    · repeat' (first
        | (refine k_L ?_; refine a_p rfl ?_)
        | refine a_n ?_
        | (refine k_V ?_; first | refine v_seq ?_ | refine v_reg ?_)
        | refine s_n ?_)
      refine g_range y.c.pairs.length (fun _ : Unit => [(0, .v (ptr a)), (5, .v (.int .i64 i)), (7, .v (.bool (decide (Doomed x.H i)))), (28, .v (.slice x.cd.a x.xs.length x.cd.cap)), (29, .v (.int .i64 x.xs.length)), (30, .v (.int .i64 i)), (50, .v (.slice y.d.a y.c.pairs.length y.d.cap))]) (fun _ => [ro m]) (fun k _ => ∀ (j : Nat) p, j < k → y.c.pairs[j]? = some p → Formed x.H p.key ∧ Formed x.H p.val) () (fun j c hj => by omega) (fun k _ hk hv => ?_) (fun _ hw => ?_)
      · obtain ⟨p, gp⟩ : ∃ p, y.c.pairs[k]? = some p := ⟨_, List.getElem?_eq_getElem (by omega)⟩
        rw [decide_eq_true hD]
        repeat' (first
          | (refine k_L ?_; first | refine a_p rfl ?_ | (refine k_g ?_; first | refine a_gy rfl rfl ?_ | refine a_gn rfl rfl ?_ | (refine a_gnd rfl (fun hb => ?_) (fun hb => ?_) <;> try (exfalso; omega))) | (refine k_l ?_; refine g_l rfl ?_) | (refine k_i ?_; refine g_i rfl rfl ?_) | (refine k_ls ?_; refine g_ls rfl ?_) | (refine k_st ?_; refine g_sw rfl rfl rfl rfl (Nat.le_of_ble_eq_true rfl) ?_) | (refine k_al ?_; refine a_al ?_) | (refine k_q ?_; first | refine a_q rfl (fun m hm => l1formed_q (H := x.H) (w := p.key) hnc) ?_ | refine a_q rfl (fun m hm => l1formed_q (H := x.H) (w := p.val) hnc) ?_))
          | refine a_n ?_
          | (refine k_V ?_; first | refine v_rv ?_ | refine v_seq ?_ | refine v_reg ?_ | refine v_dreg ?_ | refine v_exit ?_ | refine v_skip ?_ | refine v_ct rfl ?_ | (refine v_cnd rfl (fun hb => ?_) (fun hb => ?_) <;> try (exfalso; omega)))
          | refine s_r ?_
          | refine s_e ?_
          | refine r_rt ?_
          | refine sk_zero ?_
          | refine sk_succ ?_
          | refine wk_nil ?_
          | refine wk_cons ?_)
        · exact q_F fun h4 => ‹¬ Formed x.H p.key› (h4.pairs i _ gc k p gp).1
        · exact q_F fun h4 => ‹¬ Formed x.H p.val› (h4.pairs i _ gc k p gp).2.1
        · refine r_ct () (fun j q hj hq => ?_)
          by_cases e : j = k
          · subst e; rw [gp] at hq; cases hq; exact ⟨‹_›, ‹_›⟩
          · exact hv j q (by omega) hq
      · repeat' (first
          | (refine k_L ?_; first | (refine k_ad ?_; refine g_ad rfl rfl ?_) | (refine k_su ?_; refine g_su rfl rfl ?_) | (refine k_ml ?_; refine g_ml rfl rfl ?_) | refine a_p rfl ?_ | (refine k_g ?_; first | refine a_gy rfl rfl ?_ | refine a_gn rfl rfl ?_ | refine a_gu rfl ?_ | (refine a_gd rfl (fun hb => ?_) (fun hb => ?_) <;> try (exfalso; omega)) | (refine a_ge rfl (fun hb => ?_) (fun hb => ?_) <;> try (exfalso; omega)) | (refine a_gne rfl (fun hb => ?_) (fun hb => ?_) <;> try (exfalso; omega)) | (refine a_gnd rfl (fun hb => ?_) (fun hb => ?_) <;> try (exfalso; omega))) | (refine k_l ?_; refine g_l rfl ?_) | (refine k_i ?_; refine g_i rfl rfl ?_) | (refine k_ls ?_; refine g_ls rfl ?_) | (refine k_st ?_; first | refine g_st rfl rfl rfl rfl ?_ | refine g_sw rfl rfl rfl rfl (Nat.le_of_ble_eq_true rfl) ?_) | (refine k_al ?_; refine a_al ?_) | (refine k_bx ?_; refine a_bx rfl rfl ?_) | (refine k_bl ?_; refine a_bl rfl ?_) | (refine k_p ?_; first | (refine a_pd rfl (fun hb => ?_) (fun hb => ?_) <;> try (exfalso; omega)) | (refine a_pe rfl (fun hb => ?_) (fun hb => ?_) <;> try (exfalso; omega)) | (refine a_pne rfl (fun hb => ?_) (fun hb => ?_) <;> try (exfalso; omega)) | (refine a_pnd rfl (fun hb => ?_) (fun hb => ?_) <;> try (exfalso; omega))))
          | refine a_n ?_
          | (refine k_V ?_; first | refine v_rv ?_ | refine v_seq ?_ | refine v_reg ?_ | refine v_dreg ?_ | refine v_zreg ?_ | refine v_bs ?_ | refine v_br ?_ | refine v_bd ?_ | refine v_bc ?_ | refine v_bk ?_ | refine v_bb ?_ | refine v_ret ?_ | refine v_exit ?_ | refine v_skip ?_ | refine v_ct rfl ?_ | refine v_cf rfl ?_ | (refine v_cd rfl (fun hb => ?_) (fun hb => ?_) <;> try (exfalso; omega)) | (refine v_ce rfl (fun hb => ?_) (fun hb => ?_) <;> try (exfalso; omega)) | (refine v_cn rfl (fun hb => ?_) (fun hb => ?_) <;> try (exfalso; omega)) | (refine v_cnd rfl (fun hb => ?_) (fun hb => ?_) <;> try (exfalso; omega)))
          | refine s_n ?_
          | refine s_r ?_
          | refine s_e ?_
          | refine b_n ?_
          | refine b_r ?_
          | refine b_e ?_
          | refine b_o rfl ?_
          | refine r_rt ?_
          | refine r_bk rfl ?_
          | refine r_ex rfl rfl ?_
          | refine sk_zero ?_
          | refine sk_succ ?_
          | refine wk_nil ?_
          | refine wk_cons ?_)
        refine r_nx () (fun j c hj hc => ?_)
        by_cases e : j = i
        · subst e; rw [gc] at hc; cases hc
          exact ⟨hdr, fun k p gp => ⟨(hw k p (List.getElem?_eq_some_iff.1 gp).1 gp).1, (hw k p (List.getElem?_eq_some_iff.1 gp).1 gp).2, fun hn => absurd hD hn⟩⟩
        · exact hv j c (by omega) hc
    · repeat' (first
        | (refine k_L ?_; refine a_p rfl ?_)
        | refine a_n ?_
        | (refine k_V ?_; first | refine v_seq ?_ | refine v_reg ?_)
        | refine s_n ?_)
      refine g_range y.c.pairs.length (fun _ : Unit => [(0, .v (ptr a)), (5, .v (.int .i64 i)), (7, .v (.bool (decide (Doomed x.H i)))), (28, .v (.slice x.cd.a x.xs.length x.cd.cap)), (29, .v (.int .i64 x.xs.length)), (30, .v (.int .i64 i)), (50, .v (.slice y.d.a y.c.pairs.length y.d.cap))]) (fun _ => [ro m]) (fun k _ => ∀ (j : Nat) p, j < k → y.c.pairs[j]? = some p → (Formed x.H p.key ∧ LeadsWell x.H p.key (¬ Mended x.H i j)) ∧ (Formed x.H p.val ∧ LeadsWell x.H p.val (¬ Mended x.H i j))) () (fun j c hj => by omega) (fun k _ hk hv => ?_) (fun _ hw => ?_)
      · obtain ⟨p, gp⟩ : ∃ p, y.c.pairs[k]? = some p := ⟨_, List.getElem?_eq_getElem (by omega)⟩
        rw [decide_eq_false hD]
        have lw := fun w => leadsWell_b (H := x.H) (w := w) (b := !decide (Mended x.H i k)) (p := ¬ Mended x.H i k) (by simp)
        repeat' (first
          | (refine k_L ?_; first | refine a_p rfl ?_ | (refine k_g ?_; first | refine a_gy rfl rfl ?_ | refine a_gn rfl rfl ?_ | (refine a_gnd rfl (fun hb => ?_) (fun hb => ?_) <;> try (exfalso; omega))) | (refine k_i ?_; refine g_i rfl rfl ?_) | (refine k_ls ?_; refine g_ls rfl ?_) | (refine k_st ?_; refine g_sw rfl rfl rfl rfl (Nat.le_of_ble_eq_true rfl) ?_) | (refine k_al ?_; refine a_al ?_) | (refine k_c ?_; first | refine a_cq rfl (fun m hm => l1mended_q (i := i) (k := k) (has_g h hm)) ?_ | refine a_cq rfl (fun m hm => l1leads_q (w := p.key) (has_g h hm)) ?_ | refine a_cq rfl (fun m hm => l1leads_q (w := p.val) (has_g h hm)) ?_))
          | refine a_n ?_
          | (refine k_V ?_; first | refine v_rv ?_ | refine v_seq ?_ | refine v_reg ?_ | refine v_skip ?_ | refine v_ct rfl ?_ | refine v_cf rfl ?_ | (refine v_cnd rfl (fun hb => ?_) (fun hb => ?_) <;> try (exfalso; omega)))
          | refine s_r ?_
          | refine r_rt ?_
          | refine sk_zero ?_
          | refine sk_succ ?_
          | refine wk_nil ?_
          | refine wk_cons ?_)
        · refine q_F fun h4 => ?_
          have h5 := h4.pairs i _ gc k p gp
          have hn : ¬ (Formed x.H p.key ∧ LeadsWell x.H p.key ((!decide (Mended x.H i k)) = true)) := ‹_›
          exact hn ⟨h5.1, (lw p.key).2 (h5.2.2 hD).1⟩
        · refine q_F fun h4 => ?_
          have h5 := h4.pairs i _ gc k p gp
          have hn : ¬ (Formed x.H p.val ∧ LeadsWell x.H p.val ((!decide (Mended x.H i k)) = true)) := ‹_›
          exact hn ⟨h5.2.1, (lw p.val).2 (h5.2.2 hD).2⟩
        · refine r_nx () (fun j q hj hq => ?_)
          by_cases e : j = k
          · subst e; rw [gp] at hq; cases hq
            have c1 : Formed x.H p.key ∧ LeadsWell x.H p.key ((!decide (Mended x.H i j)) = true) := ‹_›
            have c2 : Formed x.H p.val ∧ LeadsWell x.H p.val ((!decide (Mended x.H i j)) = true) := ‹_›
            exact ⟨⟨c1.1, (lw p.key).1 c1.2⟩, ⟨c2.1, (lw p.val).1 c2.2⟩⟩
          · exact hv j q (by omega) hq
      · repeat' (first
          | (refine k_L ?_; first | (refine k_ad ?_; refine g_ad rfl rfl ?_) | (refine k_su ?_; refine g_su rfl rfl ?_) | (refine k_ml ?_; refine g_ml rfl rfl ?_) | refine a_p rfl ?_ | (refine k_g ?_; first | refine a_gy rfl rfl ?_ | refine a_gn rfl rfl ?_ | refine a_gu rfl ?_ | (refine a_gd rfl (fun hb => ?_) (fun hb => ?_) <;> try (exfalso; omega)) | (refine a_ge rfl (fun hb => ?_) (fun hb => ?_) <;> try (exfalso; omega)) | (refine a_gne rfl (fun hb => ?_) (fun hb => ?_) <;> try (exfalso; omega)) | (refine a_gnd rfl (fun hb => ?_) (fun hb => ?_) <;> try (exfalso; omega))) | (refine k_l ?_; refine g_l rfl ?_) | (refine k_i ?_; refine g_i rfl rfl ?_) | (refine k_ls ?_; refine g_ls rfl ?_) | (refine k_st ?_; first | refine g_st rfl rfl rfl rfl ?_ | refine g_sw rfl rfl rfl rfl (Nat.le_of_ble_eq_true rfl) ?_) | (refine k_al ?_; refine a_al ?_) | (refine k_bx ?_; refine a_bx rfl rfl ?_) | (refine k_bl ?_; refine a_bl rfl ?_) | (refine k_p ?_; first | (refine a_pd rfl (fun hb => ?_) (fun hb => ?_) <;> try (exfalso; omega)) | (refine a_pe rfl (fun hb => ?_) (fun hb => ?_) <;> try (exfalso; omega)) | (refine a_pne rfl (fun hb => ?_) (fun hb => ?_) <;> try (exfalso; omega)) | (refine a_pnd rfl (fun hb => ?_) (fun hb => ?_) <;> try (exfalso; omega))))
          | refine a_n ?_
          | (refine k_V ?_; first | refine v_rv ?_ | refine v_seq ?_ | refine v_reg ?_ | refine v_dreg ?_ | refine v_zreg ?_ | refine v_bs ?_ | refine v_br ?_ | refine v_bd ?_ | refine v_bc ?_ | refine v_bk ?_ | refine v_bb ?_ | refine v_ret ?_ | refine v_exit ?_ | refine v_skip ?_ | refine v_ct rfl ?_ | refine v_cf rfl ?_ | (refine v_cd rfl (fun hb => ?_) (fun hb => ?_) <;> try (exfalso; omega)) | (refine v_ce rfl (fun hb => ?_) (fun hb => ?_) <;> try (exfalso; omega)) | (refine v_cn rfl (fun hb => ?_) (fun hb => ?_) <;> try (exfalso; omega)) | (refine v_cnd rfl (fun hb => ?_) (fun hb => ?_) <;> try (exfalso; omega)))
          | refine s_n ?_
          | refine s_r ?_
          | refine s_e ?_
          | refine b_n ?_
          | refine b_r ?_
          | refine b_e ?_
          | refine b_o rfl ?_
          | refine r_rt ?_
          | refine r_bk rfl ?_
          | refine r_ex rfl rfl ?_
          | refine sk_zero ?_
          | refine sk_succ ?_
          | refine wk_nil ?_
          | refine wk_cons ?_)
        refine r_nx () (fun j c hj hc => ?_)
        by_cases e : j = i
        · subst e; rw [gc] at hc; cases hc
          exact ⟨hdr, fun k p gp => let w := hw k p (List.getElem?_eq_some_iff.1 gp).1 gp; ⟨w.1.1, w.2.1, fun _ => ⟨w.1.2, w.2.2⟩⟩⟩
        · exact hv j c (by omega) hc
  · repeat' (first
      | refine a_n ?_
      | (refine k_V ?_; refine v_rv ?_))
    refine q_T ⟨fun w hw => ?_, fun i c hc => (hv i c (by have := (List.getElem?_eq_some_iff.1 hc).1; omega) hc).1, fun i c hc => (hv i c (by have := (List.getElem?_eq_some_iff.1 hc).1; omega) hc).2⟩
    obtain ⟨i, hi⟩ := List.getElem?_of_mem hw
    exact hr i w (List.getElem?_eq_some_iff.1 hi).1 hi
end Go.Proofs.Ytcmllambknfleaa.E
set_option linter.unusedVariables false
set_option linter.unusedSimpArgs false
set_option maxHeartbeats 8000000
set_option maxRecDepth 100000
namespace Go.Proofs.Ytcmllambknfleaa.E
open Go
open Classical
/-- how often a place stands in Gray -/
def cnt (i : Int) : List Int → Nat
  | [] => 0
  | g :: r => (if g = i then 1 else 0) + cnt i r
theorem cnt_app (i : Int) : ∀ (l : List Int) (g : Int), cnt i (l ++ [g]) = cnt i l + (if g = i then 1 else 0)
  | [], g => by simp [cnt]
  | x :: r, g => by simp only [List.cons_append, cnt, cnt_app i r g]; omega
theorem cnt_zero {i : Int} : ∀ {l : List Int}, cnt i l = 0 ↔ i ∉ l
  | [] => by simp [cnt]
  | x :: r => by
    simp only [cnt, List.mem_cons, not_or]
    by_cases h : x = i
    · simp [h]
    · have := cnt_zero (i := i) (l := r)
      simp only [h, if_false, Nat.zero_add, this]
      exact ⟨fun hh => ⟨fun e => h e.symm, hh⟩, fun hh => hh.2⟩
theorem cnt_nodup : ∀ {l : List Int}, l.Nodup ↔ ∀ i, cnt i l ≤ 1
  | [] => by simp [cnt]
  | x :: r => by
    rw [List.nodup_cons, cnt_nodup (l := r)]
    simp only [cnt]
    constructor
    · rintro ⟨h1, h2⟩ i
      by_cases h : x = i
      · subst h
        have := cnt_zero.2 h1
        simp [this]
      · simp only [h, if_false]; have := h2 i; omega
    · intro h
      refine ⟨cnt_zero.1 ?_, fun i => ?_⟩
      · have := h x; simp only [if_true] at this; omega
      · have := h i; omega
def OK5 (H : Heap) (j : Nat) (c : Cell) : Prop := (c.color = 1 → cnt j H.gray = 1) ∧ (c.color ≠ 1 → cnt j H.gray = 0) ∧ (c.color = 2 → ¬ Marking H → H.phase = 3 ∧ H.hand ≤ j)
theorem col_iff {H : Heap} (h2 : R2 H) : R5 H ↔ ((¬ Marking H → H.gray = []) ∧ (∀ (j : Nat) c, H.cells[j]? = some c → OK5 H j c) ∧ ∀ g, g ∈ H.gray → 0 ≤ g ∧ g < H.cells.length) := by
  constructor
  · intro h
    refine ⟨fun hm => (h.else_ hm).1, fun j c hc => ?_, fun g hg => ?_⟩
    · have hgc : H.getC (j : Int) = c := by unfold Heap.getC; rw [List.getD_eq_getElem?_getD]; show (H.cells[j]?).getD _ = _; rw [hc]; rfl
      by_cases hm : Marking H
      · obtain ⟨m1, m2, m3⟩ := h.mark hm
        refine ⟨fun hk => ?_, fun hk => ?_, fun _ hn => absurd hm hn⟩
        · have a1 := cnt_nodup.1 m1 j
          have a2 : cnt j H.gray ≠ 0 := fun e => cnt_zero.1 e (m3 j c hc hk)
          omega
        · refine cnt_zero.2 fun hg => hk ?_
          have := (m2 _ hg).2.2.2
          rw [hgc] at this; exact this
      · obtain ⟨m1, m2⟩ := h.else_ hm
        rw [OK5, m1]
        exact ⟨fun hk => absurd hk (m2 j c hc).1, fun _ => rfl, fun hk _ => (m2 j c hc).2 hk⟩
    · by_cases hm : Marking H
      · exact ⟨((h.mark hm).2.1 g hg).1, ((h.mark hm).2.1 g hg).2.1⟩
      · rw [(h.else_ hm).1] at hg; cases hg
  · rintro ⟨g1, g2, g3⟩
    refine ⟨fun hm => ⟨cnt_nodup.2 fun i => ?_, fun g hg => ?_, fun i c hc hk => ?_⟩, fun hm => ⟨g1 hm, fun i c hc => ?_⟩⟩
    · by_cases hi : i ∈ H.gray
      · obtain ⟨i0, i1⟩ := g3 i hi
        obtain ⟨c, hc⟩ : ∃ c, H.cells[i.toNat]? = some c := ⟨_, List.getElem?_eq_getElem (by omega)⟩
        have h5 := g2 _ c hc
        unfold OK5 at h5
        rw [show ((i.toNat : Nat) : Int) = i by omega] at h5
        by_cases hk : c.color = 1
        · rw [h5.1 hk]; exact Nat.le_refl _
        · rw [h5.2.1 hk]; omega
      · rw [cnt_zero.2 hi]; omega
    · obtain ⟨i0, i1⟩ := g3 g hg
      obtain ⟨c, hc⟩ : ∃ c, H.cells[g.toNat]? = some c := ⟨_, List.getElem?_eq_getElem (by omega)⟩
      have hgc : H.getC g = c := by unfold Heap.getC; rw [List.getD_eq_getElem?_getD, hc]; rfl
      have h5 := g2 _ c hc
      have hk : c.color = 1 := by
        by_cases hk : c.color = 1
        · exact hk
        · have := h5.2.1 hk
          rw [show ((g.toNat : Nat) : Int) = g by omega] at this
          exact absurd hg (cnt_zero.1 this)
      refine ⟨i0, i1, ?_, by rw [hgc]; exact hk⟩
      rw [hgc]
      rcases h2.each _ c hc with h | h | h
      · have := h.2.1.2.2.2.2.1; omega
      · have := h.2.1.2.2.2.2.1; omega
      · exact h.1
    · have := (g2 i c hc).1 hk
      by_cases hi : (i : Int) ∈ H.gray
      · exact hi
      · rw [cnt_zero.2 hi] at this; omega
    · have h5 := g2 i c hc
      refine ⟨fun hk => ?_, fun hk => h5.2.2 hk hm⟩
      have := h5.1 hk
      rw [g1 hm] at this; simp [cnt] at this
theorem l1colors_q {m : Mem} {a : Nat} {x : HX} (h : Has m (hp a x)) (h2 : R2 x.H) : Qt Try.prog 88 [ptr a] m (.bool (decide (R5 x.H))) := by
  have hb := h.lens
  have hl := x.len
  have hnc : (x.hdr.nc : Int) = x.xs.length := rfl
  have hng : x.hdr.ng = x.gray.length := rfl
  refine qt_of (fnA_of (fun h => fn88 (by simp) h) ?_)
  refine v_seq ?_
  repeat' (first
    | (refine k_L ?_; refine a_p rfl ?_)
    | refine a_n ?_
    | (refine k_V ?_; refine v_reg ?_)
    | refine s_n ?_)
  refine g_cut (fun _ : Unit => [(0, .v (ptr a)), (3, .v (.bool (decide (Marking x.H))))]) (fun _ => [ro m]) (fun _ => True) ?_ (fun _ _ => ?_)
  · repeat' (first
      | (refine k_L ?_; first | refine a_p rfl ?_ | (refine k_g ?_; first | refine a_gy rfl rfl ?_ | refine a_gn rfl rfl ?_ | (refine a_gd rfl (fun hb => ?_) (fun hb => ?_) <;> try (exfalso; omega))) | (refine k_l ?_; refine g_l rfl ?_))
      | refine a_n ?_
      | (refine k_V ?_; refine v_reg ?_)
      | refine s_n ?_)
    all_goals refine j_i () trivial (hl := ⟨rfl, ?_, trivial⟩)
    all_goals (show SV.v (.bool _) = _; congr 1; refine bool_dec ?_; simp_all [Marking, HX.hdr, HX.H])
  refine g_cut (fun _ : Unit => [(0, .v (ptr a)), (3, .v (.bool (decide (Marking x.H))))]) (fun _ => [ro m]) (fun _ => ¬ Marking x.H → x.H.gray = []) ?_ (fun _ hg0 => ?_)
  · repeat' (first
      | (refine k_L ?_; first | refine a_p rfl ?_ | (refine k_g ?_; first | refine a_gy rfl rfl ?_ | refine a_gn rfl rfl ?_ | (refine a_gnd rfl (fun hb => ?_) (fun hb => ?_) <;> try (exfalso; omega))) | (refine k_l ?_; refine g_l rfl ?_))
      | refine a_n ?_
      | (refine k_V ?_; first | refine v_rv ?_ | refine v_seq ?_ | refine v_reg ?_ | refine v_skip ?_ | refine v_cf rfl ?_ | (refine v_cd rfl (fun hb => ?_) (fun hb => ?_) <;> try (exfalso; omega)))
      | refine s_n ?_
      | refine s_r ?_)
    · exact q_F fun h5 => by have := (h5.else_ ‹_›).1; have e : x.hdr.ng = x.H.gray.length := rfl; rw [this] at e; simp at e; omega
    all_goals refine j_i () (fun hm => ?_)
    · exact List.eq_nil_of_length_eq_zero (by show x.gray.length = 0; omega)
    · exact absurd ‹Marking x.H› hm
  repeat' (first
    | (refine k_L ?_; first | refine a_p rfl ?_ | (refine k_l ?_; refine g_l rfl ?_))
    | refine a_n ?_
    | (refine k_V ?_; first | refine v_seq ?_ | refine v_reg ?_)
    | refine s_n ?_)
  refine g_range x.xs.length (fun _ : Unit => [(0, .v (ptr a)), (3, .v (.bool (decide (Marking x.H)))), (36, .v (.slice x.cd.a x.xs.length x.cd.cap))]) (fun _ => [ro m]) (fun i _ => ∀ (j : Nat) c, j < i → x.H.cells[j]? = some c → OK5 x.H j c) () (fun j c hj => by omega) (fun i _ hi hv => ?_) (fun _ hv => ?_)
  · obtain ⟨y, gy, gc⟩ := HX.at hi
    have nx : OK5 x.H i y.c → ∀ (j : Nat) c, j < i + 1 → x.H.cells[j]? = some c → OK5 x.H j c := by
      intro hp j c hj hc
      by_cases e : j = i
      · subst e; rw [gc] at hc; cases hc; exact hp
      · exact hv j c (by omega) hc
    repeat' (first
      | (refine k_L ?_; first | refine a_p rfl ?_ | (refine k_l ?_; refine g_l rfl ?_) | (refine k_i ?_; refine g_i rfl rfl ?_) | (refine k_ls ?_; refine g_ls rfl ?_) | (refine k_st ?_; refine g_sw rfl rfl rfl rfl (Nat.le_of_ble_eq_true rfl) ?_) | (refine k_al ?_; refine a_al ?_))
      | refine a_n ?_
      | (refine k_V ?_; first | refine v_seq ?_ | refine v_reg ?_)
      | refine s_n ?_
      | refine sk_zero ?_
      | refine sk_succ ?_
      | refine wk_nil ?_
      | refine wk_cons ?_)
    refine g_range x.gray.length (fun n : Nat => [(0, .v (ptr a)), (3, .v (.bool (decide (Marking x.H)))), (4, .v (.int .i64 i)), (5, .box (csw y)), (6, .v (.int .i64 n)), (36, .v (.slice x.cd.a x.xs.length x.cd.cap)), (37, .v (.int .i64 x.xs.length)), (38, .v (.int .i64 i)), (46, .v (.slice x.gd.a x.gray.length x.gd.cap))]) (fun _ => [ro m]) (fun k n => n ≤ k ∧ n = cnt i (x.gray.take k)) 0 ⟨by omega, rfl⟩ (fun k n hk hw => ?_) (fun n hw => ?_)
    · obtain ⟨hnk, hw⟩ := hw
      obtain ⟨g, gg⟩ : ∃ g, x.gray[k]? = some g := ⟨_, List.getElem?_eq_getElem hk⟩
      have htk : x.gray.take (k + 1) = x.gray.take k ++ [g] := by rw [List.take_add_one, gg]; rfl
      repeat' (first
        | (refine k_L ?_; first | (refine k_ad ?_; refine g_ad rfl rfl ?_) | refine a_p rfl ?_ | (refine k_l ?_; refine g_l rfl ?_) | (refine k_i ?_; refine g_i rfl rfl ?_))
        | refine a_n ?_
        | (refine k_V ?_; first | refine v_seq ?_ | refine v_reg ?_ | refine v_skip ?_ | (refine v_cd rfl (fun hb => ?_) (fun hb => ?_) <;> try (exfalso; omega))))
      · exact r_nx (n + 1) ⟨by omega, by rw [htk, cnt_app, if_pos ‹_›, ← hw]⟩
      · exact r_nx n ⟨by omega, by rw [htk, cnt_app, if_neg ‹_›, ← hw]; rfl⟩
    · obtain ⟨_, hw⟩ := hw
      rw [List.take_length] at hw
      have hw' : n = cnt (i : Int) x.H.gray := hw
      have bad : ¬ OK5 x.H i y.c → ¬ R5 x.H := fun hn h5 => hn (((col_iff h2).1 h5).2.1 i _ gc)
      repeat' (first
        | (refine k_L ?_; first | refine a_p rfl ?_ | (refine k_g ?_; first | refine a_gy rfl rfl ?_ | refine a_gn rfl rfl ?_ | refine a_gu rfl ?_ | (refine a_gd rfl (fun hb => ?_) (fun hb => ?_) <;> try (exfalso; omega)) | (refine a_gne rfl (fun hb => ?_) (fun hb => ?_) <;> try (exfalso; omega)) | (refine a_gnd rfl (fun hb => ?_) (fun hb => ?_) <;> try (exfalso; omega))) | (refine k_l ?_; refine g_l rfl ?_))
        | refine a_n ?_
        | (refine k_V ?_; first | refine v_rv ?_ | refine v_seq ?_ | refine v_reg ?_ | refine v_skip ?_ | refine v_ct rfl ?_ | refine v_cf rfl ?_ | (refine v_cd rfl (fun hb => ?_) (fun hb => ?_) <;> try (exfalso; omega)))
        | refine s_r ?_
        | refine r_rt ?_)
      · exact q_F (bad fun h5 => by have := h5.1 ‹_›; omega)
      · exact r_nx () (nx ⟨fun _ => by omega, fun hk => absurd ‹y.c.color = 1› hk, fun hk => absurd hk ‹_›⟩)
      · exact q_F (bad fun h5 => by have := h5.2.1 ‹_›; omega)
      · exact q_F (bad fun h5 => absurd (h5.2.2 ‹_› ‹_›).1 ‹_›)
      · exact q_F (bad fun h5 => absurd (h5.2.2 ‹_› ‹_›).2 (by show ¬ x.hdr.hand ≤ _; omega))
      · exact r_nx () (nx ⟨fun hk => absurd hk ‹_›, fun hk => by omega, fun _ _ => ⟨‹_›, by show x.hdr.hand ≤ _; omega⟩⟩)
      · exact r_nx () (nx ⟨fun hk => absurd hk ‹_›, fun hk => by omega, fun _ hn => absurd ‹Marking x.H› hn⟩)
      · exact r_nx () (nx ⟨fun hk => absurd hk ‹_›, fun hk => by omega, fun hk => absurd hk ‹_›⟩)
  · repeat' (first
      | (refine k_L ?_; first | refine a_p rfl ?_ | (refine k_l ?_; refine g_l rfl ?_))
      | refine a_n ?_
      | (refine k_V ?_; first | refine v_seq ?_ | refine v_reg ?_)
      | refine s_n ?_)
    refine g_range x.gray.length (fun _ : Unit => [(0, .v (ptr a)), (100, .v (.slice x.gd.a x.gray.length x.gd.cap))]) (fun _ => [ro m]) (fun k _ => ∀ (j : Nat) g, j < k → x.gray[j]? = some g → 0 ≤ g ∧ g < x.H.cells.length) () (fun j c hj => by omega) (fun k _ hk hw => ?_) (fun _ hw => ?_)
    · obtain ⟨g, gg⟩ : ∃ g, x.gray[k]? = some g := ⟨_, List.getElem?_eq_getElem hk⟩
      have hgm := List.mem_of_getElem? gg
      repeat' (first
        | (refine k_L ?_; first | refine a_p rfl ?_ | (refine k_g ?_; first | refine a_gy rfl rfl ?_ | refine a_gn rfl rfl ?_ | (refine a_gd rfl (fun hb => ?_) (fun hb => ?_) <;> try (exfalso; omega))) | (refine k_l ?_; refine g_l rfl ?_) | (refine k_i ?_; refine g_i rfl rfl ?_))
        | refine a_n ?_
        | (refine k_V ?_; first | refine v_rv ?_ | refine v_seq ?_ | refine v_reg ?_ | refine v_skip ?_ | refine v_ct rfl ?_ | (refine v_cd rfl (fun hb => ?_) (fun hb => ?_) <;> try (exfalso; omega)))
        | refine s_r ?_
        | refine r_rt ?_)
      · exact q_F fun h5 => by have := (((col_iff h2).1 h5).2.2 g hgm).1; omega
      · exact q_F fun h5 => by have := (((col_iff h2).1 h5).2.2 g hgm).2; omega
      · refine r_nx () (fun j u hj hu => ?_)
        by_cases e : j = k
        · subst e; rw [gg] at hu; cases hu; omega
        · exact hw j u (by omega) hu
    · repeat' (first
        | refine a_n ?_
        | (refine k_V ?_; refine v_rv ?_))
      refine q_T ((col_iff h2).2 ⟨hg0, fun j c hc => hv j c (by have := (List.getElem?_eq_some_iff.1 hc).1; omega) hc, fun g hg => ?_⟩)
      obtain ⟨k, hk⟩ := List.getElem?_of_mem hg
      exact hw k g (List.getElem?_eq_some_iff.1 hk).1 hk
end Go.Proofs.Ytcmllambknfleaa.E
set_option linter.unusedVariables false
set_option linter.unusedSimpArgs false
set_option maxHeartbeats 8000000
set_option maxRecDepth 100000
namespace Go.Proofs.Ytcmllambknfleaa.E
open Go
open Classical
theorem l1sizes_q {m : Mem} {a : Nat} {x : HX} (h : Has m (hp a x)) : Qt Try.prog 84 [ptr a] m (.bool (decide (R1 x.H))) := by
  have hb := h.lens
  refine qt_of (fnA_of (fun h => fn84 (by simp) h) ?_)
  repeat' (first
    | (refine k_L ?_; first | (refine k_ml ?_; refine g_ml rfl rfl ?_) | refine a_p rfl ?_ | (refine k_g ?_; first | refine a_gy rfl rfl ?_ | refine a_gn rfl rfl ?_ | (refine a_gd rfl (fun hb => ?_) (fun hb => ?_) <;> try (exfalso; omega)) | (refine a_gne rfl (fun hb => ?_) (fun hb => ?_) <;> try (exfalso; omega)) | (refine a_gnd rfl (fun hb => ?_) (fun hb => ?_) <;> try (exfalso; omega))) | (refine k_l ?_; refine g_l rfl ?_) | (refine k_q ?_; refine a_q rfl (fun m hm => spec.l1inQ) ?_) | (refine k_c ?_; refine a_cq rfl (fun m hm => spec.l1inQ) ?_))
    | refine a_n ?_
    | (refine k_V ?_; first | refine v_rv ?_ | refine v_seq ?_ | refine v_reg ?_ | refine v_dreg ?_ | refine v_ret ?_ | refine v_skip ?_ | refine v_ct rfl ?_ | (refine v_cd rfl (fun hb => ?_) (fun hb => ?_) <;> try (exfalso; omega)) | (refine v_cnd rfl (fun hb => ?_) (fun hb => ?_) <;> try (exfalso; omega)))
    | refine s_r ?_)
  all_goals refine q_B (fun _ _ => rfl) ?_
  all_goals (rw [R1_iff]; (try simp only [decide_eq_true_eq]); simp only [HX.hdr, Hdr.s_room, Hdr.s_used, Hdr.s_born, Hdr.s_phase, Hdr.s_hand, Hdr.s_sub, Hdr.s_per, Hdr.s_start, Hdr.s_rounds, Hdr.s_forced, Hdr.s_rd, Hdr.s_cd, Hdr.s_gd, HX.H, List.length_map] at *)
  all_goals simp_all
  all_goals omega
theorem l1units_q {m : Mem} {a : Nat} {x : HX} (h : Has m (hp a x)) (h1 : R1 x.H) (h2 : R2 x.H) : Qt Try.prog 86 [ptr a] m (.int .i64 (unitsN x.H.cells)) := by
  have hc := h1.cells
  have hr := h1.room
  have hl := x.len
  have hu := unitsN_le (cs := x.H.cells) (fun c => h2.pl)
  refine qt_of (fnA_of (fun h => fn86 (by simp) h) ?_)
  repeat' (first
    | (refine k_L ?_; first | refine a_p rfl ?_ | (refine k_l ?_; refine g_l rfl ?_))
    | refine a_n ?_
    | (refine k_V ?_; first | refine v_seq ?_ | refine v_reg ?_)
    | refine s_n ?_)
  refine g_range x.xs.length (fun n : Int => [(3, .v (.int .i64 n)), (9, .v (.slice x.cd.a x.xs.length x.cd.cap))]) (fun _ => [ro m]) (fun i n => n = unitsN (x.H.cells.take i)) 0 rfl (fun i n hi hn => ?_) (fun n hn => ?_)
  · obtain ⟨y, gy, gc⟩ := HX.at hi
    have hu1 := hu i
    have hu2 := hu (i + 1)
    have hu3 := unitsN_nn (x.H.cells.take i)
    have ht := unitsN_take gc
    have hp := h2.pl (List.mem_of_getElem? gc)
    unfold Cell.units at ht
    repeat' (first
      | (refine k_L ?_; first | (refine k_ad ?_; refine g_ad rfl rfl ?_) | refine a_p rfl ?_ | (refine k_i ?_; refine g_i rfl rfl ?_) | (refine k_ls ?_; refine g_ls rfl ?_) | (refine k_st ?_; refine g_sw rfl rfl rfl rfl (Nat.le_of_ble_eq_true rfl) ?_) | (refine k_al ?_; refine a_al ?_))
      | refine a_n ?_
      | (refine k_V ?_; first | refine v_seq ?_ | refine v_reg ?_ | refine v_skip ?_ | (refine v_cd rfl (fun hb => ?_) (fun hb => ?_) <;> try (exfalso; omega)))
      | refine sk_zero ?_
      | refine sk_succ ?_
      | refine wk_nil ?_
      | refine wk_cons ?_)
    · exact r_nx (n + (1 + y.c.pairs.length)) (by rw [ht, hn, if_pos ‹_›])
    · exact r_nx n (by rw [ht, hn, if_neg ‹_›]; omega)
  · rw [List.take_of_length_le (by omega)] at hn
    subst hn
    repeat' (first
      | (refine k_L ?_; refine a_p rfl ?_)
      | refine a_n ?_
      | (refine k_V ?_; first | refine v_seq ?_ | refine v_reg ?_ | refine v_ret ?_))
    exact fa_q (by simp) (fun _ _ => rfl) rfl
theorem l1closing_q {m : Mem} {a : Nat} {x : HX} (h : Has m (hp a x)) : Qt Try.prog 91 [ptr a] m (.bool (decide (R8 x.H))) := by
  have hb := h.lens
  have hl := x.len
  refine qt_of (fnA_of (fun h => fn91 (by simp) h) ?_)
  repeat' (first
    | (refine k_L ?_; first | refine a_p rfl ?_ | (refine k_l ?_; refine g_l rfl ?_))
    | refine a_n ?_
    | (refine k_V ?_; first | refine v_seq ?_ | refine v_reg ?_)
    | refine s_n ?_)
  refine g_range x.xs.length (fun _ : Unit => [(0, .v (ptr a)), (8, .v (.slice x.cd.a x.xs.length x.cd.cap))]) (fun _ => [ro m]) (fun i _ => ∀ (j : Nat) c, j < i → x.H.cells[j]? = some c → x.H.phase = 6 → x.H.hand ≤ j → c.state ≠ 2) () (fun j c hj => by omega) (fun i _ hi hv => ?_) (fun _ hv => ?_)
  · obtain ⟨y, gy, gc⟩ := HX.at hi
    have nx : (x.H.phase = 6 → x.H.hand ≤ i → y.c.state ≠ 2) → ∀ (j : Nat) c, j < i + 1 → x.H.cells[j]? = some c → x.H.phase = 6 → x.H.hand ≤ j → c.state ≠ 2 := by
      intro hp j c hj hc
      by_cases e : j = i
      · subst e; rw [gc] at hc; cases hc; exact hp
      · exact hv j c (by omega) hc
    repeat' (first
      | (refine k_L ?_; first | refine a_p rfl ?_ | (refine k_g ?_; first | refine a_gy rfl rfl ?_ | refine a_gn rfl rfl ?_ | (refine a_gd rfl (fun hb => ?_) (fun hb => ?_) <;> try (exfalso; omega))) | (refine k_l ?_; refine g_l rfl ?_) | (refine k_i ?_; refine g_i rfl rfl ?_) | (refine k_ls ?_; refine g_ls rfl ?_) | (refine k_st ?_; refine g_sw rfl rfl rfl rfl (Nat.le_of_ble_eq_true rfl) ?_) | (refine k_al ?_; refine a_al ?_))
      | refine a_n ?_
      | (refine k_V ?_; first | refine v_rv ?_ | refine v_seq ?_ | refine v_reg ?_ | refine v_skip ?_ | refine v_cf rfl ?_ | (refine v_cd rfl (fun hb => ?_) (fun hb => ?_) <;> try (exfalso; omega)))
      | refine s_r ?_
      | refine r_rt ?_
      | refine sk_zero ?_
      | refine sk_succ ?_
      | refine wk_nil ?_
      | refine wk_cons ?_)
    · exact q_F fun h8 => absurd ‹y.c.state = 2› (h8 ‹_› i _ gc (by show x.hdr.hand ≤ _; omega))
    all_goals refine r_nx () (nx fun p1 p2 => ?_)
    all_goals first | exact absurd p1 ‹_› | assumption | (exfalso; have p3 : x.hdr.hand ≤ (i : Int) := p2; omega)
  · repeat' (first
      | refine a_n ?_
      | (refine k_V ?_; refine v_rv ?_))
    exact q_T fun h6 i c hc hh => hv i c (by have := (List.getElem?_eq_some_iff.1 hc).1; omega) hc h6 hh
end Go.Proofs.Ytcmllambknfleaa.E
set_option linter.unusedVariables false
set_option linter.unusedSimpArgs false
set_option maxHeartbeats 8000000
set_option maxRecDepth 100000
namespace Go.Proofs.Ytcmllambknfleaa.E
open Go
open Classical
theorem l1hands_q {m : Mem} {a : Nat} {x : HX} (h : Has m (hp a x)) (h1 : R1 x.H) (h5 : R5 x.H) : Qt Try.prog 89 [ptr a] m (.bool (decide (R6 x.H))) := by
  have hb := h.lens
  have hh := h1.hand
  have hl := x.len
  have hnc : (x.hdr.nc : Int) = x.xs.length := rfl
  refine qt_of (fnA_of (fun h => fn89 (by simp) h) ?_)
  by_cases hp2 : x.phase = 2
  · have hm := (h5.mark (.inr hp2)).2.1
    have hp2' : x.hdr.phase = 2 := hp2
    cases hg : x.gray with
    | nil =>
      have hgl : (x.hdr.ng : Int) = 0 := by simp [HX.hdr, hg]
      have hg' : x.H.gray = [] := hg
      repeat' (first
        | (refine k_L ?_; first | refine a_p rfl ?_ | (refine k_l ?_; refine g_l rfl ?_))
        | refine a_n ?_
        | (refine k_V ?_; first | refine v_rv ?_ | refine v_seq ?_ | refine v_reg ?_ | refine v_bs ?_ | refine v_ret ?_ | refine v_skip ?_ | (refine v_cd rfl (fun hb => ?_) (fun hb => ?_) <;> try (exfalso; omega)) | (refine v_cn rfl (fun hb => ?_) (fun hb => ?_) <;> try (exfalso; omega)))
        | refine s_r ?_
        | refine b_r ?_)
      all_goals refine q_B (fun _ _ => rfl) ?_
      all_goals simp_all [R6, HX.hdr, Hdr.s_room, Hdr.s_used, Hdr.s_born, Hdr.s_phase, Hdr.s_hand, Hdr.s_sub, Hdr.s_per, Hdr.s_start, Hdr.s_rounds, Hdr.s_forced, Hdr.s_rd, Hdr.s_cd, Hdr.s_gd, HX.H]
    | cons g r =>
      have hgl1 : (x.hdr.ng : Int) = r.length + 1 := by simp [HX.hdr, hg]
      have hg' : x.H.gray = g :: r := hg
      obtain ⟨g0, g1, _⟩ := hm g (by rw [hg']; simp)
      obtain ⟨y, gy, gc⟩ := HX.atI (x := x) g0 (by omega)
      have g00 : x.gray[(0 : Int).toNat]? = some g := by rw [hg]; rfl
      repeat' (first
        | (refine k_L ?_; first | refine a_p rfl ?_ | (refine k_l ?_; refine g_l rfl ?_) | (refine k_i ?_; refine g_i rfl rfl ?_))
        | refine a_n ?_
        | (refine k_V ?_; first | refine v_rv ?_ | refine v_seq ?_ | refine v_reg ?_ | refine v_dreg ?_ | refine v_bs ?_ | refine v_ret ?_ | refine v_skip ?_ | (refine v_cd rfl (fun hb => ?_) (fun hb => ?_) <;> try (exfalso; omega)) | (refine v_cn rfl (fun hb => ?_) (fun hb => ?_) <;> try (exfalso; omega)))
        | refine s_r ?_
        | refine b_r ?_)
      all_goals refine q_B (fun _ _ => rfl) ?_
      all_goals simp_all [R6, HX.hdr, Hdr.s_room, Hdr.s_used, Hdr.s_born, Hdr.s_phase, Hdr.s_hand, Hdr.s_sub, Hdr.s_per, Hdr.s_start, Hdr.s_rounds, Hdr.s_forced, Hdr.s_rd, Hdr.s_cd, Hdr.s_gd]
      all_goals simp_all [HX.H]
  · have hp2' : ¬ x.hdr.phase = 2 := hp2
    have hh' : 0 ≤ x.hdr.hand ∧ x.hdr.hand ≤ x.hdr.nc := by rw [hl] at hh; exact hh
    by_cases hh5 : x.hand < x.xs.length
    · obtain ⟨y, gy, gc⟩ := HX.atI (x := x) hh.1 hh5
      have hh5' : x.hdr.hand < x.hdr.nc := hh5
      have gc' : x.H.getC x.hand = y.c := gc
      repeat' (first
        | (refine k_L ?_; first | refine a_p rfl ?_ | (refine k_g ?_; first | refine a_gy rfl rfl ?_ | refine a_gn rfl rfl ?_ | (refine a_gd rfl (fun hb => ?_) (fun hb => ?_) <;> try (exfalso; omega))) | (refine k_l ?_; refine g_l rfl ?_) | (refine k_i ?_; refine g_i rfl rfl ?_) | (refine k_q ?_; refine a_q rfl (fun m hm => l1used_q (i := x.hand) (has_g h hm) hh.1 (by rw [hl]; exact hh5)) ?_))
        | refine a_n ?_
        | (refine k_V ?_; first | refine v_seq ?_ | refine v_reg ?_ | refine v_dreg ?_ | refine v_bs ?_ | refine v_ret ?_ | refine v_skip ?_ | (refine v_cd rfl (fun hb => ?_) (fun hb => ?_) <;> try (exfalso; omega)) | (refine v_cn rfl (fun hb => ?_) (fun hb => ?_) <;> try (exfalso; omega)))
        | refine s_r ?_
        | refine b_r ?_)
      all_goals refine q_B (fun _ _ => rfl) ?_
      all_goals (try simp only [decide_eq_true_eq])
      all_goals simp only [HX.hdr, Hdr.s_room, Hdr.s_used, Hdr.s_born, Hdr.s_phase, Hdr.s_hand, Hdr.s_sub, Hdr.s_per, Hdr.s_start, Hdr.s_rounds, Hdr.s_forced, Hdr.s_rd, Hdr.s_cd, Hdr.s_gd] at *
      all_goals unfold R6
      all_goals simp_all
      all_goals simp_all [HX.H]
    · have hh5' : ¬ (x.hdr.hand < x.hdr.nc) := hh5
      repeat' (first
        | (refine k_L ?_; first | refine a_p rfl ?_ | (refine k_g ?_; first | refine a_gy rfl rfl ?_ | refine a_gn rfl rfl ?_ | (refine a_gd rfl (fun hb => ?_) (fun hb => ?_) <;> try (exfalso; omega))) | (refine k_l ?_; refine g_l rfl ?_))
        | refine a_n ?_
        | (refine k_V ?_; first | refine v_seq ?_ | refine v_reg ?_ | refine v_dreg ?_ | refine v_bs ?_ | refine v_ret ?_ | refine v_skip ?_ | refine v_ct rfl ?_ | (refine v_cd rfl (fun hb => ?_) (fun hb => ?_) <;> try (exfalso; omega)))
        | refine s_r ?_
        | refine b_r ?_)
      all_goals refine q_B (fun _ _ => rfl) ?_
      all_goals (try simp only [decide_eq_true_eq])
      all_goals simp only [HX.hdr, Hdr.s_room, Hdr.s_used, Hdr.s_born, Hdr.s_phase, Hdr.s_hand, Hdr.s_sub, Hdr.s_per, Hdr.s_start, Hdr.s_rounds, Hdr.s_forced, Hdr.s_rd, Hdr.s_cd, Hdr.s_gd] at *
      all_goals unfold R6
      all_goals simp_all
      all_goals simp_all [HX.H]
theorem bool_d {p : Prop} {_ : Decidable p} {b : Bool} (h : b = true ↔ p) : Value.bool b = .bool (decide p) := by congr 1; rw [Bool.eq_iff_iff, h]; simp
theorem scanned_le {H : Heap} (h1 : R1 H) (h6 : R6 H) {i : Nat} {c : Cell} (hc : H.cells[i]? = some c) : 0 ≤ scanned H i c ∧ scanned H i c ≤ c.pairs.length := by
  unfold scanned
  split
  · omega
  · split
    · rename_i hg
      unfold R6 at h6
      rw [if_neg (by rw [hg.1]; decide), if_pos hg.1] at h6
      cases hgr : H.gray with
      | nil => rw [hgr] at hg; simp at hg
      | cons g r =>
        rw [hgr] at hg h6
        have hgi : g = (i : Int) := by simpa using hg.2
        have h3 := h6.2
        simp only [hgi] at h3
        have hgc : H.getC (i : Int) = c := by unfold Heap.getC; rw [List.getD_eq_getElem?_getD]; show (H.cells[i]?).getD _ = _; rw [hc]; rfl
        rw [hgc] at h3
        exact ⟨h1.sub.1, h3⟩
    · omega
theorem l1marks_q {m : Mem} {a : Nat} {x : HX} (h : Has m (hp a x)) (h1 : R1 x.H) (h2 : R2 x.H) (h4 : R4 x.H) (h6 : R6 x.H) : Qt Try.prog 90 [ptr a] m (.bool (decide (R7 x.H))) := by
  have hb := h.lens
  have hl := x.len
  have hnc : (x.hdr.nc : Int) = x.xs.length := rfl
  refine qt_of (fnA_of (fun h => fn90 (by simp) h) ?_)
  refine v_seq ?_
  repeat' (first
    | (refine k_L ?_; refine a_p rfl ?_)
    | refine a_n ?_
    | (refine k_V ?_; refine v_reg ?_)
    | refine s_n ?_)
  refine g_cut (fun _ : Unit => [(0, .v (ptr a))]) (fun _ => [ro m]) (fun _ => Marking x.H) ?_ (fun _ hmk => ?_)
  · repeat' (first
      | (refine k_L ?_; first | refine a_p rfl ?_ | (refine k_g ?_; first | refine a_gy rfl rfl ?_ | refine a_gn rfl rfl ?_ | (refine a_gne rfl (fun hb => ?_) (fun hb => ?_) <;> try (exfalso; omega))) | (refine k_l ?_; refine g_l rfl ?_))
      | refine a_n ?_
      | (refine k_V ?_; first | refine v_rv ?_ | refine v_seq ?_ | refine v_reg ?_ | refine v_skip ?_ | refine v_cf rfl ?_ | (refine v_cn rfl (fun hb => ?_) (fun hb => ?_) <;> try (exfalso; omega)))
      | refine s_n ?_
      | refine s_r ?_)
    · exact q_T fun hk => by rcases hk with hk | hk <;> contradiction
    · exact j_i () (.inr ‹_›)
    · exact j_i () (.inl ‹_›)
  have g0 : (∃ g, x.gray[(0 : Int).toNat]? = some g ∧ x.H.gray.head? = some g) ∨ (x.hdr.ng : Int) = 0 ∧ x.H.gray.head? = none := by
    show (∃ g, x.gray[(0 : Int).toNat]? = some g ∧ x.gray.head? = some g) ∨ (x.gray.length : Int) = 0 ∧ x.gray.head? = none
    cases x.gray with
    | nil => exact .inr ⟨rfl, rfl⟩
    | cons g r => exact .inl ⟨g, rfl, rfl⟩
  have hng : x.hdr.ng = x.gray.length := rfl
  repeat' (first
    | (refine k_L ?_; first | refine a_p rfl ?_ | (refine k_l ?_; refine g_l rfl ?_))
    | refine a_n ?_
    | (refine k_V ?_; first | refine v_seq ?_ | refine v_reg ?_)
    | refine s_n ?_)
  refine g_range x.xs.length (fun _ : Unit => [(0, .v (ptr a)), (23, .v (.slice x.cd.a x.xs.length x.cd.cap))]) (fun _ => [ro m]) (fun i _ => ∀ (j : Nat) c, j < i → x.H.cells[j]? = some c → OK7 x.H j c) () (fun j c hj => by omega) (fun i _ hi hv => ?_) (fun _ hv => ?_)
  · obtain ⟨y, gy, gc⟩ := HX.at hi
    have hbp : y.c.pairs.length ≤ 140737488355328 := by obtain ⟨b, l, s⟩ := h; exact (kn_t (kn_t (kn_h (kb_cp gy))) : Kn (hp a x) _).out b s
    have hsc : (if y.c.color = 2 then (y.c.pairs.length : Int) else if x.hdr.phase = 2 ∧ x.H.gray.head? = some (i : Int) then x.hdr.sub else 0) = scanned x.H i y.c := rfl
    have hroot : (y.c.last = 1 ∨ y.c.last = 2) → Root y.c := fun hl => ⟨by
      rcases h2.each i _ gc with h | h | h
      · have := h.2.1.2.2.1; omega
      · have := h.2.1.2.2.1; omega
      · exact h.1, hl⟩
    refine v_seq ?_
    repeat' (first
      | (refine k_L ?_; first | refine a_p rfl ?_ | (refine k_i ?_; refine g_i rfl rfl ?_) | (refine k_ls ?_; refine g_ls rfl ?_) | (refine k_st ?_; refine g_sw rfl rfl rfl rfl (Nat.le_of_ble_eq_true rfl) ?_) | (refine k_al ?_; refine a_al ?_))
      | refine a_n ?_
      | (refine k_V ?_; refine v_reg ?_)
      | refine s_n ?_
      | refine sk_zero ?_
      | refine sk_succ ?_
      | refine wk_nil ?_
      | refine wk_cons ?_)
    refine g_cut (fun _ : Unit => [(0, .v (ptr a)), (3, .v (.int .i64 i)), (4, .box (csw y)), (5, .v (.bool (decide (y.c.last = 1 ∨ y.c.last = 2)))), (23, .v (.slice x.cd.a x.xs.length x.cd.cap)), (24, .v (.int .i64 x.xs.length)), (25, .v (.int .i64 i))]) (fun _ => [ro m]) (fun _ => True) ?_ (fun _ _ => ?_)
    · repeat' (first
        | (refine k_L ?_; first | refine a_p rfl ?_ | (refine k_g ?_; first | refine a_gy rfl rfl ?_ | refine a_gn rfl rfl ?_ | (refine a_gd rfl (fun hb => ?_) (fun hb => ?_) <;> try (exfalso; omega))))
        | refine a_n ?_
        | (refine k_V ?_; refine v_reg ?_)
        | refine s_n ?_)
      all_goals refine j_i () trivial (hl := ⟨rfl, rfl, rfl, ?_, rfl, rfl, rfl, trivial⟩)
      all_goals (show SV.v (.bool _) = _; congr 1; refine bool_d ?_; simp_all)
    refine g_cut (fun _ : Unit => [(0, .v (ptr a)), (3, .v (.int .i64 i)), (4, .box (csw y)), (23, .v (.slice x.cd.a x.xs.length x.cd.cap)), (24, .v (.int .i64 x.xs.length)), (25, .v (.int .i64 i))]) (fun _ => [ro m]) (fun _ => Root y.c → y.c.color = 0 → x.hdr.phase ≠ 2 ∧ x.hdr.hand ≤ i) ?_ (fun _ hr => ?_)
    · repeat' (first
        | (refine k_L ?_; first | refine a_p rfl ?_ | (refine k_g ?_; first | refine a_gy rfl rfl ?_ | refine a_gn rfl rfl ?_ | refine a_gu rfl ?_ | (refine a_gd rfl (fun hb => ?_) (fun hb => ?_) <;> try (exfalso; omega))) | (refine k_l ?_; refine g_l rfl ?_))
        | refine a_n ?_
        | (refine k_V ?_; first | refine v_rv ?_ | refine v_seq ?_ | refine v_reg ?_ | refine v_skip ?_ | refine v_ct rfl ?_ | refine v_cf rfl ?_ | (refine v_cd rfl (fun hb => ?_) (fun hb => ?_) <;> try (exfalso; omega)))
        | refine s_n ?_
        | refine s_r ?_
        | refine r_rt ?_)
      · exact q_F fun h7 => absurd ‹x.hdr.phase = 2› ((h7 ‹_› i _ gc).1 (hroot ‹_›) ‹_›).1
      · exact q_F fun h7 => absurd ((h7 ‹_› i _ gc).1 (hroot ‹_›) ‹_›).2 (by show ¬ x.hdr.hand ≤ _; omega)
      all_goals refine j_i () (fun r1 r2 => ?_)
      · exact ⟨‹_›, by omega⟩
      all_goals first | exact absurd r1.2 ‹_› | exact absurd r2 ‹_›
    refine v_seq ?_
    repeat' (first
      | (refine k_L ?_; refine a_p rfl ?_)
      | refine a_n ?_
      | (refine k_V ?_; refine v_reg ?_)
      | refine s_n ?_)
    refine g_cut (fun n : Int => [(0, .v (ptr a)), (4, .box (csw y)), (6, .v (.int .i64 n)), (23, .v (.slice x.cd.a x.xs.length x.cd.cap)), (24, .v (.int .i64 x.xs.length)), (25, .v (.int .i64 i))]) (fun _ => [ro m]) (fun n => n = scanned x.H i y.c) ?_ (fun n hn => ?_)
    · rw [← hsc]
      rcases g0 with ⟨g, g0, g1⟩ | ⟨g0, g1⟩
      · have hlg := (List.getElem?_eq_some_iff.1 g0).1
        have hlg2 : (0 : Int) < x.hdr.ng := by rw [hng]; have : (0 : Int).toNat = 0 := rfl; omega
        repeat' (first
          | (refine k_L ?_; first | refine a_p rfl ?_ | (refine k_g ?_; first | refine a_gy rfl rfl ?_ | refine a_gn rfl rfl ?_ | (refine a_gd rfl (fun hb => ?_) (fun hb => ?_) <;> try (exfalso; omega))) | (refine k_l ?_; refine g_l rfl ?_) | (refine k_i ?_; refine g_i rfl rfl ?_))
          | refine a_n ?_
          | (refine k_V ?_; first | refine v_seq ?_ | refine v_reg ?_ | refine v_skip ?_ | refine v_cf rfl ?_ | (refine v_cd rfl (fun hb => ?_) (fun hb => ?_) <;> try (exfalso; omega)))
          | refine s_n ?_)
        all_goals refine j_i _ ?_
        all_goals simp_all
      · repeat' (first
          | (refine k_L ?_; first | refine a_p rfl ?_ | (refine k_g ?_; first | refine a_gy rfl rfl ?_ | refine a_gn rfl rfl ?_ | (refine a_gd rfl (fun hb => ?_) (fun hb => ?_) <;> try (exfalso; omega))) | (refine k_l ?_; refine g_l rfl ?_))
          | refine a_n ?_
          | (refine k_V ?_; first | refine v_seq ?_ | refine v_reg ?_ | refine v_skip ?_ | refine v_cf rfl ?_ | (refine v_cd rfl (fun hb => ?_) (fun hb => ?_) <;> try (exfalso; omega)))
          | refine s_n ?_)
        all_goals refine j_i _ ?_
        all_goals simp_all
    have hn0 : 0 ≤ n ∧ n ≤ y.c.pairs.length := by rw [hn]; exact scanned_le h1 h6 gc
    refine v_seq ?_
    repeat' (first
      | (refine k_L ?_; refine a_p rfl ?_)
      | refine a_n ?_
      | (refine k_V ?_; refine v_reg ?_)
      | refine s_n ?_)
    refine v_blk ?_
    refine v_loop (fun k : Nat => [(0, .v (ptr a)), (4, .box (csw y)), (6, .v (.int .i64 n)), (7, .v (.int .i64 k)), (23, .v (.slice x.cd.a x.xs.length x.cd.cap)), (24, .v (.int .i64 x.xs.length)), (25, .v (.int .i64 i))]) (fun _ => [ro m])
      (fun f k => f = n.toNat - k ∧ (k : Int) ≤ n ∧ ∀ (j : Nat) p, j < k → y.c.pairs[j]? = some p → ¬ White x.H p.key ∧ ¬ White x.H p.val) ⟨_, 0, ⟨rfl, rfl, rfl, rfl, rfl, rfl, rfl, trivial⟩, Ent.refl _, rfl, by omega, fun j c hj => by omega⟩ ?_
    rintro f k ⟨rfl, hk, hw⟩
    by_cases hkt : (k : Int) < n
    · obtain ⟨p, gp⟩ : ∃ p, y.c.pairs[k]? = some p := ⟨_, List.getElem?_eq_getElem (by omega)⟩
      obtain ⟨f1, f2, _⟩ := h4.pairs i _ gc k p gp
      repeat' (first
        | (refine k_L ?_; first | (refine k_ad ?_; refine g_ad rfl rfl ?_) | refine a_p rfl ?_ | (refine k_g ?_; first | refine a_gy rfl rfl ?_ | refine a_gn rfl rfl ?_ | (refine a_gd rfl (fun hb => ?_) (fun hb => ?_) <;> try (exfalso; omega))) | (refine k_i ?_; refine g_i rfl rfl ?_) | (refine k_ls ?_; refine g_ls rfl ?_) | (refine k_c ?_; first | refine a_cq rfl (fun m hm => l1white_q (w := p.key) (has_g h hm) f1) ?_ | refine a_cq rfl (fun m hm => l1white_q (w := p.val) (has_g h hm) f2) ?_))
        | refine a_n ?_
        | (refine k_V ?_; first | refine v_rv ?_ | refine v_seq ?_ | refine v_reg ?_ | refine v_bs ?_ | refine v_skip ?_ | refine v_ct rfl ?_ | (refine v_cd rfl (fun hb => ?_) (fun hb => ?_) <;> try (exfalso; omega)))
        | refine s_n ?_
        | refine s_r ?_
        | refine b_r ?_
        | refine r_rt ?_)
      · exact q_F fun h7 => ((h7 hmk i _ gc).2 k p gp (by rw [← hn]; omega)).1 ‹_›
      · exact q_F fun h7 => ((h7 hmk i _ gc).2 k p gp (by rw [← hn]; omega)).2 ‹_›
      · refine ⟨_, k + 1, ?_, ⟨rfl, rfl, rfl, rfl, rfl, rfl, rfl, trivial⟩, Ent.refl _, rfl, by omega, fun j q hj hq => ?_⟩
        · omega
        · by_cases e : j = k
          · subst e; rw [gp] at hq; cases hq; exact ⟨‹_›, ‹_›⟩
          · exact hw j q (by omega) hq
    · repeat' (first
        | (refine k_L ?_; refine a_p rfl ?_)
        | refine a_n ?_
        | (refine k_V ?_; first | refine v_seq ?_ | refine v_reg ?_ | refine v_exit ?_ | (refine v_cd rfl (fun hb => ?_) (fun hb => ?_) <;> try (exfalso; omega)))
        | refine s_e ?_
        | refine b_e ?_)
      refine r_nx () (fun j c hj hc => ?_)
      by_cases e : j = i
      · subst e; rw [gc] at hc; cases hc
        exact ⟨hr, fun k' p gp hk' => hw k' p (by rw [← hn] at hk'; omega) gp⟩
      · exact hv j c (by omega) hc
  · repeat' (first
      | refine a_n ?_
      | (refine k_V ?_; refine v_rv ?_))
    exact q_T fun hm i c hc => hv i c (by have := (List.getElem?_eq_some_iff.1 hc).1; omega) hc
end Go.Proofs.Ytcmllambknfleaa.E
set_option linter.unusedVariables false
set_option linter.unusedSimpArgs false
set_option maxHeartbeats 8000000
set_option maxRecDepth 100000
namespace Go.Proofs.Ytcmllambknfleaa.E
open Go
open Classical
theorem specHeapOk_q {m : Mem} {x : HX} (h : Has m x.body) : Qt Try.prog 31 [x.v] m (.int .i64 (okH x.H)) := by
  refine qt_of (fnA_of (fun h => fn31 (by simp) h) ?_)
  refine v_seq (v_reg (a_nwh x rfl (fun b => ?_)))
  have hs : ∀ m', star [hdA b x.hdr, ro m] m' → Has m' (hp b x) := fun m' s => has_new h s (by (fail_if_success apply pm_bad); (repeat (first | exact pm_nil | (apply pm_cons; repeat (first | exact pk_h | apply pk_t)))); fail_if_success focus skip) (F := [])
  repeat' (first
    | (refine k_L ?_; refine a_p rfl ?_)
    | refine a_n ?_
    | refine s_n ?_)
  refine v_seq ?_
  repeat' (first
    | (refine k_L ?_; refine a_p rfl ?_)
    | refine a_n ?_
    | (refine k_V ?_; refine v_reg ?_)
    | refine s_n ?_)
  refine g_cut (fun _ : Unit => [(1, .v (ptr b)), (3, .v (ptr b))]) (fun _ => [hdA b x.hdr, ro m]) (fun _ => R1 x.H) ?_ (fun _ h1 => ?_)
  · repeat' (first
      | (refine k_L ?_; first | refine a_p rfl ?_ | (refine k_c ?_; refine a_cq rfl (fun m hm => l1sizes_q (hs m hm)) ?_))
      | refine a_n ?_
      | (refine k_V ?_; first | refine v_rv ?_ | refine v_seq ?_ | refine v_reg ?_ | refine v_skip ?_ | (refine v_cnd rfl (fun hb => ?_) (fun hb => ?_) <;> try (exfalso; omega)))
      | refine s_n ?_
      | refine s_r ?_)
    · exact fa_q (by simp) (fun _ _ => rfl) (by unfold okH; simp_all)
    · exact j_i () ‹_›
  refine g_cut (fun _ : Unit => [(1, .v (ptr b)), (3, .v (ptr b))]) (fun _ => [hdA b x.hdr, ro m]) (fun _ => R2 x.H) ?_ (fun _ h2 => ?_)
  · repeat' (first
      | (refine k_L ?_; first | refine a_p rfl ?_ | (refine k_c ?_; refine a_cq rfl (fun m hm => l1cells_q (hs m hm)) ?_))
      | refine a_n ?_
      | (refine k_V ?_; first | refine v_rv ?_ | refine v_seq ?_ | refine v_reg ?_ | refine v_skip ?_ | (refine v_cnd rfl (fun hb => ?_) (fun hb => ?_) <;> try (exfalso; omega)))
      | refine s_n ?_
      | refine s_r ?_)
    · exact fa_q (by simp) (fun _ _ => rfl) (by unfold okH; simp_all)
    · exact j_i () ‹_›
  refine g_cut (fun _ : Unit => [(1, .v (ptr b)), (3, .v (ptr b))]) (fun _ => [hdA b x.hdr, ro m]) (fun _ => R3 x.H) ?_ (fun _ h3 => ?_)
  · repeat' (first
      | (refine k_L ?_; first | refine a_p rfl ?_ | (refine k_g ?_; first | refine a_gy rfl rfl ?_ | refine a_gn rfl rfl ?_ | (refine a_gne rfl (fun hb => ?_) (fun hb => ?_) <;> try (exfalso; omega))) | (refine k_l ?_; refine g_l rfl ?_) | (refine k_q ?_; refine a_q rfl (fun m hm => l1units_q (hs m hm) h1 h2) ?_))
      | refine a_n ?_
      | (refine k_V ?_; first | refine v_rv ?_ | refine v_seq ?_ | refine v_dreg ?_ | refine v_skip ?_ | refine v_ct rfl ?_ | (refine v_cd rfl (fun hb => ?_) (fun hb => ?_) <;> try (exfalso; omega)))
      | refine s_n ?_
      | refine s_r ?_)
    · exact fa_q (by simp) (fun _ _ => rfl) (by
        have : ¬ R3 x.H := fun h => absurd h.1.symm ‹_›
        unfold okH; simp_all)
    · exact fa_q (by simp) (fun _ _ => rfl) (by
        have : ¬ R3 x.H := fun h => by have := h.2; have e : x.H.used = x.hdr.used := rfl; have e2 : x.H.room = x.hdr.room := rfl; omega
        unfold okH; simp_all)
    · exact j_i () ⟨Eq.symm ‹_›, by show x.hdr.used ≤ x.hdr.room; omega⟩
  refine g_cut (fun _ : Unit => [(1, .v (ptr b)), (3, .v (ptr b))]) (fun _ => [hdA b x.hdr, ro m]) (fun _ => R4 x.H) ?_ (fun _ h4 => ?_)
  · repeat' (first
      | (refine k_L ?_; first | refine a_p rfl ?_ | (refine k_c ?_; refine a_cq rfl (fun m hm => l1words_q (hs m hm)) ?_))
      | refine a_n ?_
      | (refine k_V ?_; first | refine v_rv ?_ | refine v_seq ?_ | refine v_reg ?_ | refine v_skip ?_ | (refine v_cnd rfl (fun hb => ?_) (fun hb => ?_) <;> try (exfalso; omega)))
      | refine s_n ?_
      | refine s_r ?_)
    · exact fa_q (by simp) (fun _ _ => rfl) (by unfold okH; simp_all)
    · exact j_i () ‹_›
  refine g_cut (fun _ : Unit => [(1, .v (ptr b)), (3, .v (ptr b))]) (fun _ => [hdA b x.hdr, ro m]) (fun _ => R5 x.H) ?_ (fun _ h5 => ?_)
  · repeat' (first
      | (refine k_L ?_; first | refine a_p rfl ?_ | (refine k_c ?_; refine a_cq rfl (fun m hm => l1colors_q (hs m hm) h2) ?_))
      | refine a_n ?_
      | (refine k_V ?_; first | refine v_rv ?_ | refine v_seq ?_ | refine v_reg ?_ | refine v_skip ?_ | (refine v_cnd rfl (fun hb => ?_) (fun hb => ?_) <;> try (exfalso; omega)))
      | refine s_n ?_
      | refine s_r ?_)
    · exact fa_q (by simp) (fun _ _ => rfl) (by unfold okH; simp_all)
    · exact j_i () ‹_›
  refine g_cut (fun _ : Unit => [(1, .v (ptr b)), (3, .v (ptr b))]) (fun _ => [hdA b x.hdr, ro m]) (fun _ => R6 x.H) ?_ (fun _ h6 => ?_)
  · repeat' (first
      | (refine k_L ?_; first | refine a_p rfl ?_ | (refine k_c ?_; refine a_cq rfl (fun m hm => l1hands_q (hs m hm) h1 h5) ?_))
      | refine a_n ?_
      | (refine k_V ?_; first | refine v_rv ?_ | refine v_seq ?_ | refine v_reg ?_ | refine v_skip ?_ | (refine v_cnd rfl (fun hb => ?_) (fun hb => ?_) <;> try (exfalso; omega)))
      | refine s_n ?_
      | refine s_r ?_)
    · exact fa_q (by simp) (fun _ _ => rfl) (by unfold okH; simp_all)
    · exact j_i () ‹_›
  refine g_cut (fun _ : Unit => [(1, .v (ptr b)), (3, .v (ptr b))]) (fun _ => [hdA b x.hdr, ro m]) (fun _ => R7 x.H) ?_ (fun _ h7 => ?_)
  · repeat' (first
      | (refine k_L ?_; first | refine a_p rfl ?_ | (refine k_c ?_; refine a_cq rfl (fun m hm => l1marks_q (hs m hm) h1 h2 h4 h6) ?_))
      | refine a_n ?_
      | (refine k_V ?_; first | refine v_rv ?_ | refine v_seq ?_ | refine v_reg ?_ | refine v_skip ?_ | (refine v_cnd rfl (fun hb => ?_) (fun hb => ?_) <;> try (exfalso; omega)))
      | refine s_n ?_
      | refine s_r ?_)
    · exact fa_q (by simp) (fun _ _ => rfl) (by unfold okH; simp_all)
    · exact j_i () ‹_›
  refine g_cut (fun _ : Unit => [(1, .v (ptr b)), (3, .v (ptr b))]) (fun _ => [hdA b x.hdr, ro m]) (fun _ => R8 x.H) ?_ (fun _ h8 => ?_)
  · repeat' (first
      | (refine k_L ?_; first | refine a_p rfl ?_ | (refine k_c ?_; refine a_cq rfl (fun m hm => l1closing_q (hs m hm)) ?_))
      | refine a_n ?_
      | (refine k_V ?_; first | refine v_rv ?_ | refine v_seq ?_ | refine v_reg ?_ | refine v_skip ?_ | (refine v_cnd rfl (fun hb => ?_) (fun hb => ?_) <;> try (exfalso; omega)))
      | refine s_n ?_
      | refine s_r ?_)
    · exact fa_q (by simp) (fun _ _ => rfl) (by unfold okH; simp_all)
    · exact j_i () ‹_›
  repeat' (first
    | refine a_n ?_
    | (refine k_V ?_; refine v_rv ?_))
  exact fa_q (by simp) (fun _ _ => rfl) (by rw [(okH_sound x.H).2 ⟨h1, h2, h3, h4, h5, h6, h7, h8⟩])
end Go.Proofs.Ytcmllambknfleaa.E
set_option maxRecDepth 100000
set_option linter.unusedVariables false
namespace Go.Proofs.Ytcmllambknfleaa.E
open Go
noncomputable def e115 : Env := ⟨Try.prog, [8, 10, 13, 14, 16, 139], 143, []⟩
noncomputable def c115 : C :=
  .seq (.reg [
    ⟨some 1, none, .box false (.tmp 0)⟩,
    ⟨some 2, none, .mov (.const (.slice none 0 0))⟩]) (.seq (.reg [
    ⟨some 18, none, .load true 1 (.tmp 1)⟩,
    ⟨some 19, none, .nilCheck (.tmp 18)⟩,
    ⟨some 20, none, .faddr 4 (.tmp 19)⟩,
    ⟨some 21, none, .load true 1 (.tmp 20)⟩,
    ⟨some 22, none, .lenS (.tmp 21)⟩,
    ⟨some 23, none, .mkslice 1 1 [.bool false] (.tmp 22) (.tmp 22)⟩,
    ⟨some 3, none, .alloc false [.slice none 0 0]⟩,
    ⟨none, none, .store 1 (.tmp 3) (.tmp 23)⟩]) (.seq (.reg [
    ⟨some 24, none, .mkmap⟩,
    ⟨some 4, none, .mov (.tmp 24)⟩]) (.seq (.reg [
    ⟨some 5, none, .alloc false [.slice none 0 0]⟩]) (.seq (.reg [
    ⟨some 25, none, .mkfn 152 [] [.tmp 1, .tmp 3, .tmp 5]⟩,
    ⟨some 6, none, .mov (.tmp 25)⟩]) (.seq (.seq (.reg [
    ⟨some 26, none, .load true 1 (.tmp 1)⟩,
    ⟨some 27, none, .nilCheck (.tmp 26)⟩,
    ⟨some 28, none, .faddr 3 (.tmp 27)⟩,
    ⟨some 29, none, .load true 1 (.tmp 28)⟩,
    ⟨some 30, none, .lenS (.tmp 29)⟩,
    ⟨some 31, none, .mov (.const (.int .i64 0))⟩]) (.block 0 (.loop (.seq (.reg [
    ⟨some 32, none, .bin .lss (.tmp 31) (.tmp 30)⟩]) (.seq (.cond (.tmp 32) (.skip) (.exit 0)) (.seq (.block 1 (.seq (.reg [
    ⟨some 33, none, .iaddr 3 (.tmp 29) (.tmp 31)⟩,
    ⟨some 34, none, .load false 3 (.tmp 33)⟩,
    ⟨some 8, none, .alloc true [.int .i64 0, .int .i64 0, .int .i64 0]⟩,
    ⟨none, none, .store 3 (.tmp 8) (.tmp 34)⟩]) (.reg [
    ⟨some 35, none, .mov (.tmp 6)⟩,
    ⟨some 36, none, .load false 3 (.tmp 8)⟩,
    ⟨some 37, none, .callv (.tmp 35) [.tmp 36]⟩]))) (.reg [
    ⟨some 38, none, .bin .add (.tmp 31) (.const (.int .i64 1))⟩,
    ⟨some 31, none, .mov (.tmp 38)⟩]))))))) (.seq (.seq (.reg [
    ⟨some 39, none, .load true 1 (.tmp 1)⟩,
    ⟨some 40, none, .nilCheck (.tmp 39)⟩,
    ⟨some 41, none, .faddr 4 (.tmp 40)⟩,
    ⟨some 42, none, .load true 1 (.tmp 41)⟩,
    ⟨some 43, none, .lenS (.tmp 42)⟩,
    ⟨some 44, none, .mov (.const (.int .i64 0))⟩]) (.block 2 (.loop (.seq (.reg [
    ⟨some 45, none, .bin .lss (.tmp 44) (.tmp 43)⟩]) (.seq (.cond (.tmp 45) (.skip) (.exit 2)) (.seq (.block 3 (.seq (.reg [
    ⟨some 46, none, .mov (.tmp 44)⟩,
    ⟨some 47, none, .iaddr 8 (.tmp 42) (.tmp 44)⟩,
    ⟨some 48, none, .load false 8 (.tmp 47)⟩,
    ⟨some 10, none, .alloc true [.int .i64 0, .int .i64 0, .int .i64 0, .int .i64 0, .int .i64 0, .int .i64 0, .int .i64 0, .slice none 0 0]⟩,
    ⟨some 9, none, .mov (.tmp 46)⟩,
    ⟨none, none, .store 8 (.tmp 10) (.tmp 48)⟩]) (.seq (.reg [
    ⟨some 49, none, .faddr 0 (.tmp 10)⟩,
    ⟨some 50, none, .load true 1 (.tmp 49)⟩,
    ⟨some 51, none, .bin .eql (.tmp 50) (.const (.int .i64 1))⟩,
    ⟨some 52, none, .mov (.tmp 51)⟩,
    ⟨some 53, some (52, true), .faddr 3 (.tmp 10)⟩,
    ⟨some 54, some (52, true), .load true 1 (.tmp 53)⟩,
    ⟨some 55, some (52, true), .bin .eql (.tmp 54) (.const (.int .i64 2))⟩,
    ⟨some 56, none, .pick (.tmp 52) (.tmp 55) (.const (.bool false))⟩]) (.cond (.tmp 56) (.reg [
    ⟨some 57, none, .mov (.tmp 6)⟩,
    ⟨some 58, none, .mov (.tmp 9)⟩,
    ⟨some 59, none, .build [.int .i64 0, .int .i64 0, .int .i64 0] [(0, 1, .const (.int .i64 2)), (2, 1, .tmp 58)]⟩,
    ⟨some 60, none, .callv (.tmp 57) [.tmp 59]⟩]) (.skip))))) (.reg [
    ⟨some 61, none, .bin .add (.tmp 44) (.const (.int .i64 1))⟩,
    ⟨some 44, none, .mov (.tmp 61)⟩]))))))) (.seq (.block 4 (.loop (.seq (.seq (.reg [
    ⟨some 62, none, .load true 1 (.tmp 5)⟩,
    ⟨some 63, none, .lenS (.tmp 62)⟩,
    ⟨some 64, none, .bin .gtr (.tmp 63) (.const (.int .i64 0))⟩]) (.cond (.tmp 64) (.skip) (.exit 4))) (.block 5 (.seq (.reg [
    ⟨some 65, none, .load true 1 (.tmp 5)⟩,
    ⟨some 66, none, .load true 1 (.tmp 5)⟩,
    ⟨some 67, none, .lenS (.tmp 66)⟩,
    ⟨some 68, none, .bin .sub (.tmp 67) (.const (.int .i64 1))⟩,
    ⟨some 69, none, .iaddr 1 (.tmp 65) (.tmp 68)⟩,
    ⟨some 70, none, .load true 1 (.tmp 69)⟩,
    ⟨some 11, none, .mov (.tmp 70)⟩]) (.seq (.reg [
    ⟨some 71, none, .load true 1 (.tmp 5)⟩,
    ⟨some 72, none, .load true 1 (.tmp 5)⟩,
    ⟨some 73, none, .lenS (.tmp 72)⟩,
    ⟨some 74, none, .bin .sub (.tmp 73) (.const (.int .i64 1))⟩,
    ⟨some 75, none, .slc 1 (.tmp 71) none (some (.tmp 74))⟩,
    ⟨none, none, .store 1 (.tmp 5) (.tmp 75)⟩]) (.seq (.seq (.reg [
    ⟨some 76, none, .mov (.tmp 4)⟩,
    ⟨some 77, none, .mov (.tmp 11)⟩,
    ⟨some 78, none, .look true (.slice none 0 0) false (.tmp 76) (.tmp 77)⟩,
    ⟨some 79, none, .lenS (.tmp 78)⟩,
    ⟨some 80, none, .mov (.const (.int .i64 0))⟩]) (.block 6 (.loop (.seq (.reg [
    ⟨some 81, none, .bin .lss (.tmp 80) (.tmp 79)⟩]) (.seq (.cond (.tmp 81) (.skip) (.exit 6)) (.seq (.block 7 (.seq (.reg [
    ⟨some 82, none, .iaddr 3 (.tmp 78) (.tmp 80)⟩,
    ⟨some 83, none, .load false 3 (.tmp 82)⟩,
    ⟨some 13, none, .alloc true [.int .i64 0, .int .i64 0, .int .i64 0]⟩,
    ⟨none, none, .store 3 (.tmp 13) (.tmp 83)⟩]) (.reg [
    ⟨some 84, none, .mov (.tmp 6)⟩,
    ⟨some 85, none, .load false 3 (.tmp 13)⟩,
    ⟨some 86, none, .callv (.tmp 84) [.tmp 85]⟩]))) (.reg [
    ⟨some 87, none, .bin .add (.tmp 80) (.const (.int .i64 1))⟩,
    ⟨some 80, none, .mov (.tmp 87)⟩]))))))) (.seq (.reg [
    ⟨some 88, none, .mov (.tmp 4)⟩,
    ⟨some 89, none, .mov (.tmp 11)⟩,
    ⟨none, none, .mdel (.tmp 88) (.tmp 89)⟩]) (.seq (.reg [
    ⟨some 90, none, .load true 1 (.tmp 1)⟩,
    ⟨some 91, none, .nilCheck (.tmp 90)⟩,
    ⟨some 92, none, .faddr 4 (.tmp 91)⟩,
    ⟨some 93, none, .load true 1 (.tmp 92)⟩,
    ⟨some 94, none, .mov (.tmp 11)⟩,
    ⟨some 95, none, .iaddr 8 (.tmp 93) (.tmp 94)⟩,
    ⟨some 96, none, .load false 8 (.tmp 95)⟩,
    ⟨some 14, none, .alloc true [.int .i64 0, .int .i64 0, .int .i64 0, .int .i64 0, .int .i64 0, .int .i64 0, .int .i64 0, .slice none 0 0]⟩,
    ⟨none, none, .store 8 (.tmp 14) (.tmp 96)⟩]) (.seq (.reg [
    ⟨some 97, none, .faddr 7 (.tmp 14)⟩,
    ⟨some 98, none, .load true 1 (.tmp 97)⟩,
    ⟨some 99, none, .lenS (.tmp 98)⟩,
    ⟨some 100, none, .mov (.const (.int .i64 0))⟩]) (.block 8 (.loop (.seq (.reg [
    ⟨some 101, none, .bin .lss (.tmp 100) (.tmp 99)⟩]) (.seq (.cond (.tmp 101) (.skip) (.exit 8)) (.seq (.block 9 (.seq (.reg [
    ⟨some 102, none, .iaddr 6 (.tmp 98) (.tmp 100)⟩,
    ⟨some 103, none, .load false 6 (.tmp 102)⟩,
    ⟨some 16, none, .alloc true [.int .i64 0, .int .i64 0, .int .i64 0, .int .i64 0, .int .i64 0, .int .i64 0]⟩,
    ⟨none, none, .store 6 (.tmp 16) (.tmp 103)⟩]) (.seq (.seq (.reg [
    ⟨some 104, none, .faddr 2 (.tmp 14)⟩,
    ⟨some 105, none, .load true 1 (.tmp 104)⟩,
    ⟨some 106, none, .bin .and (.tmp 105) (.const (.int .i64 1))⟩,
    ⟨some 107, none, .bin .eql (.tmp 106) (.const (.int .i64 0))⟩]) (.cond (.tmp 107) (.reg [
    ⟨some 108, none, .mov (.tmp 6)⟩,
    ⟨some 109, none, .faddr 0 (.tmp 16)⟩,
    ⟨some 110, none, .load false 3 (.tmp 109)⟩,
    ⟨some 111, none, .callv (.tmp 108) [.tmp 110]⟩]) (.skip))) (.seq (.seq (.reg [
    ⟨some 112, none, .faddr 2 (.tmp 14)⟩,
    ⟨some 113, none, .load true 1 (.tmp 112)⟩,
    ⟨some 114, none, .bin .and (.tmp 113) (.const (.int .i64 2))⟩,
    ⟨some 115, none, .bin .neq (.tmp 114) (.const (.int .i64 0))⟩]) (.cond (.tmp 115) (.exit 9) (.skip))) (.seq (.reg [
    ⟨some 116, none, .load true 1 (.tmp 1)⟩,
    ⟨some 117, none, .faddr 0 (.tmp 16)⟩,
    ⟨some 118, none, .load false 3 (.tmp 117)⟩,
    ⟨some 119, none, .call 150 [.tmp 116, .tmp 118]⟩,
    ⟨some 17, none, .mov (.tmp 119)⟩]) (.seq (.reg [
    ⟨some 120, none, .mov (.tmp 17)⟩,
    ⟨some 121, none, .bin .lss (.tmp 120) (.const (.int .i64 0))⟩,
    ⟨some 122, none, .mov (.tmp 121)⟩,
    ⟨some 123, some (122, false), .load true 1 (.tmp 3)⟩,
    ⟨some 124, some (122, false), .mov (.tmp 17)⟩,
    ⟨some 125, some (122, false), .iaddr 1 (.tmp 123) (.tmp 124)⟩,
    ⟨some 126, some (122, false), .load true 1 (.tmp 125)⟩,
    ⟨some 127, none, .pick (.tmp 122) (.const (.bool true)) (.tmp 126)⟩]) (.cond (.tmp 127) (.reg [
    ⟨some 128, none, .mov (.tmp 6)⟩,
    ⟨some 129, none, .faddr 3 (.tmp 16)⟩,
    ⟨some 130, none, .load false 3 (.tmp 129)⟩,
    ⟨some 131, none, .callv (.tmp 128) [.tmp 130]⟩]) (.reg [
    ⟨some 132, none, .mov (.tmp 4)⟩,
    ⟨some 133, none, .mov (.tmp 17)⟩,
    ⟨some 134, none, .mov (.tmp 4)⟩,
    ⟨some 135, none, .mov (.tmp 17)⟩,
    ⟨some 136, none, .look true (.slice none 0 0) false (.tmp 134) (.tmp 135)⟩,
    ⟨some 137, none, .faddr 3 (.tmp 16)⟩,
    ⟨some 138, none, .load false 3 (.tmp 137)⟩,
    ⟨some 139, none, .bslice true 1 3 [.int .i64 0, .int .i64 0, .int .i64 0] [(0, 3, .tmp 138)]⟩,
    ⟨some 140, none, .app 3 24 [.int .i64 0, .int .i64 0, .int .i64 0] (.tmp 136) (.tmp 139)⟩,
    ⟨none, none, .mupd (.tmp 132) (.tmp 133) (.tmp 140)⟩])))))))) (.reg [
    ⟨some 141, none, .bin .add (.tmp 100) (.const (.int .i64 1))⟩,
    ⟨some 100, none, .mov (.tmp 141)⟩])))))))))))))))) (.seq (.reg [
    ⟨some 142, none, .load true 1 (.tmp 3)⟩,
    ⟨some 2, none, .mov (.tmp 142)⟩]) (.ret)))))))))
theorem t115 : Try.f115.body.bind (trC e115) = some c115 := by kernel_rfl
theorem r115 : Try.f115.results.toList.mapM (trR Try.prog) = some [.tmp 2] := by kernel_rfl
theorem fn115 {args : List Value} {M : Mem} {post : Value → Mem → Prop} (hl : args.length ≤ 143) (h : VC e115 c115 (fnQ [.tmp 2] post) (initS args 143) M) : Fn Try.prog 115 args M post :=
  Fn.of' (E := e115) Try.func115 t115 rfl r115 mixed hl h
noncomputable def e152 : Env := ⟨Try.prog, [4, 23], 25, []⟩
noncomputable def c152 : C :=
  .seq (.reg [
    ⟨some 4, none, .box true (.tmp 0)⟩]) (.seq (.reg [
    ⟨some 6, none, .load true 1 (.tmp 1)⟩,
    ⟨some 7, none, .load false 3 (.tmp 4)⟩,
    ⟨some 8, none, .call 150 [.tmp 6, .tmp 7]⟩,
    ⟨some 5, none, .mov (.tmp 8)⟩]) (.seq (.reg [
    ⟨some 9, none, .mov (.tmp 5)⟩,
    ⟨some 10, none, .bin .geq (.tmp 9) (.const (.int .i64 0))⟩,
    ⟨some 11, none, .mov (.tmp 10)⟩,
    ⟨some 12, some (11, true), .load true 1 (.tmp 2)⟩,
    ⟨some 13, some (11, true), .mov (.tmp 5)⟩,
    ⟨some 14, some (11, true), .iaddr 1 (.tmp 12) (.tmp 13)⟩,
    ⟨some 15, some (11, true), .load true 1 (.tmp 14)⟩,
    ⟨some 16, some (11, true), .not (.tmp 15)⟩,
    ⟨some 17, none, .pick (.tmp 11) (.tmp 16) (.const (.bool false))⟩]) (.cond (.tmp 17) (.seq (.reg [
    ⟨some 18, none, .load true 1 (.tmp 2)⟩,
    ⟨some 19, none, .mov (.tmp 5)⟩,
    ⟨some 20, none, .iaddr 1 (.tmp 18) (.tmp 19)⟩,
    ⟨none, none, .store 1 (.tmp 20) (.const (.bool true))⟩]) (.reg [
    ⟨some 21, none, .load true 1 (.tmp 3)⟩,
    ⟨some 22, none, .mov (.tmp 5)⟩,
    ⟨some 23, none, .bslice true 1 1 [.int .i64 0] [(0, 1, .tmp 22)]⟩,
    ⟨some 24, none, .app 1 8 [.int .i64 0] (.tmp 21) (.tmp 23)⟩,
    ⟨none, none, .store 1 (.tmp 3) (.tmp 24)⟩])) (.skip))))
theorem t152 : Try.f152.body.bind (trC e152) = some c152 := by kernel_rfl
theorem r152 : Try.f152.results.toList.mapM (trR Try.prog) = some [] := by kernel_rfl
theorem fn152 {args : List Value} {M : Mem} {post : Value → Mem → Prop} (hl : args.length ≤ 25) (h : VC e152 c152 (fnQ [] post) (initS args 25) M) : Fn Try.prog 152 args M post :=
  Fn.of' (E := e152) Try.func152 t152 rfl r152 mixed hl h
noncomputable def e151 : Env := ⟨Try.prog, [7, 9, 31], 33, []⟩
noncomputable def c151 : C :=
  .seq (.reg [
    ⟨some 7, none, .box true (.tmp 3)⟩,
    ⟨some 8, none, .mov (.const (.slice none 0 0))⟩]) (.seq (.reg [
    ⟨some 10, none, .mov (.tmp 0)⟩,
    ⟨some 11, none, .load false 3 (.tmp 7)⟩,
    ⟨some 12, none, .call 104 [.tmp 10, .tmp 11]⟩,
    ⟨some 9, none, .alloc true [.int .i64 0, .int .i64 0, .int .i64 0]⟩,
    ⟨none, none, .store 3 (.tmp 9) (.tmp 12)⟩]) (.seq (.seq (.reg [
    ⟨some 13, none, .faddr 0 (.tmp 9)⟩,
    ⟨some 14, none, .load true 1 (.tmp 13)⟩,
    ⟨some 15, none, .bin .neq (.tmp 14) (.const (.int .i64 2))⟩,
    ⟨some 16, none, .mov (.tmp 15)⟩,
    ⟨some 17, some (16, false), .mov (.tmp 1)⟩,
    ⟨some 18, some (16, false), .faddr 2 (.tmp 9)⟩,
    ⟨some 19, some (16, false), .load true 1 (.tmp 18)⟩,
    ⟨some 20, some (16, false), .iaddr 1 (.tmp 17) (.tmp 19)⟩,
    ⟨some 21, some (16, false), .load true 1 (.tmp 20)⟩,
    ⟨some 22, none, .pick (.tmp 16) (.const (.bool true)) (.tmp 21)⟩]) (.cond (.tmp 22) (.seq (.reg [
    ⟨some 23, none, .mov (.tmp 2)⟩,
    ⟨some 8, none, .mov (.tmp 23)⟩]) (.ret)) (.skip))) (.seq (.reg [
    ⟨some 24, none, .mov (.tmp 1)⟩,
    ⟨some 25, none, .faddr 2 (.tmp 9)⟩,
    ⟨some 26, none, .load true 1 (.tmp 25)⟩,
    ⟨some 27, none, .iaddr 1 (.tmp 24) (.tmp 26)⟩,
    ⟨none, none, .store 1 (.tmp 27) (.const (.bool true))⟩]) (.seq (.reg [
    ⟨some 28, none, .mov (.tmp 2)⟩,
    ⟨some 29, none, .faddr 2 (.tmp 9)⟩,
    ⟨some 30, none, .load true 1 (.tmp 29)⟩,
    ⟨some 31, none, .bslice true 1 1 [.int .i64 0] [(0, 1, .tmp 30)]⟩,
    ⟨some 32, none, .app 1 8 [.int .i64 0] (.tmp 28) (.tmp 31)⟩,
    ⟨some 8, none, .mov (.tmp 32)⟩]) (.ret)))))
theorem t151 : Try.f151.body.bind (trC e151) = some c151 := by kernel_rfl
theorem r151 : Try.f151.results.toList.mapM (trR Try.prog) = some [.tmp 8] := by kernel_rfl
theorem fn151 {args : List Value} {M : Mem} {post : Value → Mem → Prop} (hl : args.length ≤ 33) (h : VC e151 c151 (fnQ [.tmp 8] post) (initS args 33) M) : Fn Try.prog 151 args M post :=
  Fn.of' (E := e151) Try.func151 t151 rfl r151 mixed hl h
noncomputable def e114 : Env := ⟨Try.prog, [6, 8, 11, 13, 14], 123, [(20, 11)]⟩
noncomputable def c114 : C :=
  .seq (.reg [
    ⟨some 2, none, .mov (.const (.slice none 0 0))⟩]) (.seq (.reg [
    ⟨some 15, none, .mov (.tmp 0)⟩,
    ⟨some 16, none, .nilCheck (.tmp 15)⟩,
    ⟨some 17, none, .faddr 4 (.tmp 16)⟩,
    ⟨some 18, none, .load true 1 (.tmp 17)⟩,
    ⟨some 19, none, .lenS (.tmp 18)⟩,
    ⟨some 20, none, .mkslice 1 1 [.bool false] (.tmp 19) (.tmp 19)⟩,
    ⟨some 3, none, .mov (.tmp 20)⟩]) (.seq (.reg [
    ⟨some 4, none, .mov (.const (.slice none 0 0))⟩]) (.seq (.seq (.reg [
    ⟨some 21, none, .mov (.tmp 0)⟩,
    ⟨some 22, none, .nilCheck (.tmp 21)⟩,
    ⟨some 23, none, .faddr 3 (.tmp 22)⟩,
    ⟨some 24, none, .load true 1 (.tmp 23)⟩,
    ⟨some 25, none, .lenS (.tmp 24)⟩,
    ⟨some 26, none, .mov (.const (.int .i64 0))⟩]) (.block 0 (.loop (.seq (.reg [
    ⟨some 27, none, .bin .lss (.tmp 26) (.tmp 25)⟩]) (.seq (.cond (.tmp 27) (.skip) (.exit 0)) (.seq (.block 1 (.seq (.reg [
    ⟨some 28, none, .iaddr 3 (.tmp 24) (.tmp 26)⟩,
    ⟨some 29, none, .load false 3 (.tmp 28)⟩,
    ⟨some 6, none, .alloc true [.int .i64 0, .int .i64 0, .int .i64 0]⟩,
    ⟨none, none, .store 3 (.tmp 6) (.tmp 29)⟩]) (.reg [
    ⟨some 30, none, .mov (.tmp 0)⟩,
    ⟨some 31, none, .mov (.tmp 3)⟩,
    ⟨some 32, none, .mov (.tmp 4)⟩,
    ⟨some 33, none, .load false 3 (.tmp 6)⟩,
    ⟨some 34, none, .call 151 [.tmp 30, .tmp 31, .tmp 32, .tmp 33]⟩,
    ⟨some 4, none, .mov (.tmp 34)⟩]))) (.reg [
    ⟨some 35, none, .bin .add (.tmp 26) (.const (.int .i64 1))⟩,
    ⟨some 26, none, .mov (.tmp 35)⟩]))))))) (.seq (.seq (.reg [
    ⟨some 36, none, .mov (.tmp 0)⟩,
    ⟨some 37, none, .nilCheck (.tmp 36)⟩,
    ⟨some 38, none, .faddr 4 (.tmp 37)⟩,
    ⟨some 39, none, .load true 1 (.tmp 38)⟩,
    ⟨some 40, none, .lenS (.tmp 39)⟩,
    ⟨some 41, none, .mov (.const (.int .i64 0))⟩]) (.block 2 (.loop (.seq (.reg [
    ⟨some 42, none, .bin .lss (.tmp 41) (.tmp 40)⟩]) (.seq (.cond (.tmp 42) (.skip) (.exit 2)) (.seq (.block 3 (.seq (.reg [
    ⟨some 43, none, .mov (.tmp 41)⟩,
    ⟨some 44, none, .iaddr 8 (.tmp 39) (.tmp 41)⟩,
    ⟨some 45, none, .load false 8 (.tmp 44)⟩,
    ⟨some 8, none, .alloc true [.int .i64 0, .int .i64 0, .int .i64 0, .int .i64 0, .int .i64 0, .int .i64 0, .int .i64 0, .slice none 0 0]⟩,
    ⟨some 7, none, .mov (.tmp 43)⟩,
    ⟨none, none, .store 8 (.tmp 8) (.tmp 45)⟩]) (.seq (.reg [
    ⟨some 46, none, .faddr 3 (.tmp 8)⟩,
    ⟨some 47, none, .load true 1 (.tmp 46)⟩,
    ⟨some 48, none, .bin .eql (.tmp 47) (.const (.int .i64 2))⟩]) (.cond (.tmp 48) (.reg [
    ⟨some 49, none, .mov (.tmp 0)⟩,
    ⟨some 50, none, .mov (.tmp 3)⟩,
    ⟨some 51, none, .mov (.tmp 4)⟩,
    ⟨some 52, none, .mov (.tmp 7)⟩,
    ⟨some 53, none, .build [.int .i64 0, .int .i64 0, .int .i64 0] [(0, 1, .const (.int .i64 2)), (2, 1, .tmp 52)]⟩,
    ⟨some 54, none, .call 151 [.tmp 49, .tmp 50, .tmp 51, .tmp 53]⟩,
    ⟨some 4, none, .mov (.tmp 54)⟩]) (.skip))))) (.reg [
    ⟨some 55, none, .bin .add (.tmp 41) (.const (.int .i64 1))⟩,
    ⟨some 41, none, .mov (.tmp 55)⟩]))))))) (.seq (.reg [
    ⟨some 9, none, .mov (.const (.int .i64 (-1)))⟩]) (.seq (.block 4 (.loop (.seq (.seq (.reg [
    ⟨some 56, none, .mov (.tmp 9)⟩,
    ⟨some 57, none, .mov (.tmp 4)⟩,
    ⟨some 58, none, .lenS (.tmp 57)⟩,
    ⟨some 59, none, .bin .neq (.tmp 56) (.tmp 58)⟩]) (.cond (.tmp 59) (.skip) (.exit 4))) (.block 5 (.seq (.reg [
    ⟨some 60, none, .mov (.tmp 4)⟩,
    ⟨some 61, none, .lenS (.tmp 60)⟩,
    ⟨some 9, none, .mov (.tmp 61)⟩]) (.seq (.reg [
    ⟨some 10, none, .mov (.const (.int .i64 0))⟩]) (.block 6 (.loop (.seq (.seq (.reg [
    ⟨some 62, none, .mov (.tmp 10)⟩,
    ⟨some 63, none, .mov (.tmp 4)⟩,
    ⟨some 64, none, .lenS (.tmp 63)⟩,
    ⟨some 65, none, .bin .lss (.tmp 62) (.tmp 64)⟩]) (.cond (.tmp 65) (.skip) (.exit 6))) (.seq (.block 7 (.seq (.dreg 11 [
    ⟨some 68, none, .mov (.tmp 0)⟩,
    ⟨some 69, none, .nilCheck (.tmp 68)⟩,
    ⟨some 70, none, .faddr 4 (.tmp 69)⟩,
    ⟨some 71, none, .load true 1 (.tmp 70)⟩,
    ⟨some 72, none, .mov (.tmp 4)⟩,
    ⟨some 73, none, .mov (.tmp 10)⟩,
    ⟨some 74, none, .iaddr 1 (.tmp 72) (.tmp 73)⟩,
    ⟨some 75, none, .load true 1 (.tmp 74)⟩,
    ⟨some 76, none, .iaddr 8 (.tmp 71) (.tmp 75)⟩,
    ⟨some 77, none, .load false 8 (.tmp 76)⟩,
    ⟨some 11, none, .alloc true [.int .i64 0, .int .i64 0, .int .i64 0, .int .i64 0, .int .i64 0, .int .i64 0, .int .i64 0, .slice none 0 0]⟩,
    ⟨none, none, .store 8 (.tmp 11) (.tmp 77)⟩]) (.seq (.reg [
    ⟨some 78, none, .faddr 7 (.tmp 11)⟩,
    ⟨some 79, none, .load true 1 (.tmp 78)⟩,
    ⟨some 80, none, .lenS (.tmp 79)⟩,
    ⟨some 81, none, .mov (.const (.int .i64 0))⟩]) (.block 8 (.loop (.seq (.reg [
    ⟨some 82, none, .bin .lss (.tmp 81) (.tmp 80)⟩]) (.seq (.cond (.tmp 82) (.skip) (.exit 8)) (.seq (.block 9 (.seq (.reg [
    ⟨some 83, none, .iaddr 6 (.tmp 79) (.tmp 81)⟩,
    ⟨some 84, none, .load false 6 (.tmp 83)⟩,
    ⟨some 13, none, .alloc true [.int .i64 0, .int .i64 0, .int .i64 0, .int .i64 0, .int .i64 0, .int .i64 0]⟩,
    ⟨none, none, .store 6 (.tmp 13) (.tmp 84)⟩]) (.seq (.seq (.reg [
    ⟨some 85, none, .faddr 2 (.tmp 11)⟩,
    ⟨some 86, none, .load true 1 (.tmp 85)⟩,
    ⟨some 87, none, .bin .and (.tmp 86) (.const (.int .i64 1))⟩,
    ⟨some 88, none, .bin .eql (.tmp 87) (.const (.int .i64 0))⟩]) (.cond (.tmp 88) (.reg [
    ⟨some 89, none, .mov (.tmp 0)⟩,
    ⟨some 90, none, .mov (.tmp 3)⟩,
    ⟨some 91, none, .mov (.tmp 4)⟩,
    ⟨some 92, none, .faddr 0 (.tmp 13)⟩,
    ⟨some 93, none, .load false 3 (.tmp 92)⟩,
    ⟨some 94, none, .call 151 [.tmp 89, .tmp 90, .tmp 91, .tmp 93]⟩,
    ⟨some 4, none, .mov (.tmp 94)⟩]) (.skip))) (.seq (.reg [
    ⟨some 95, none, .mov (.tmp 0)⟩,
    ⟨some 96, none, .faddr 0 (.tmp 13)⟩,
    ⟨some 97, none, .load false 3 (.tmp 96)⟩,
    ⟨some 98, none, .call 104 [.tmp 95, .tmp 97]⟩,
    ⟨some 14, none, .alloc true [.int .i64 0, .int .i64 0, .int .i64 0]⟩,
    ⟨none, none, .store 3 (.tmp 14) (.tmp 98)⟩]) (.seq (.reg [
    ⟨some 99, none, .faddr 2 (.tmp 11)⟩,
    ⟨some 100, none, .load true 1 (.tmp 99)⟩,
    ⟨some 101, none, .bin .and (.tmp 100) (.const (.int .i64 2))⟩,
    ⟨some 102, none, .bin .eql (.tmp 101) (.const (.int .i64 0))⟩,
    ⟨some 103, none, .mov (.tmp 102)⟩,
    ⟨some 104, some (103, true), .faddr 0 (.tmp 14)⟩,
    ⟨some 105, some (103, true), .load true 1 (.tmp 104)⟩,
    ⟨some 106, some (103, true), .bin .neq (.tmp 105) (.const (.int .i64 2))⟩,
    ⟨some 107, some (103, true), .mov (.tmp 106)⟩,
    ⟨some 108, some (107, false), .mov (.tmp 3)⟩,
    ⟨some 109, some (107, false), .faddr 2 (.tmp 14)⟩,
    ⟨some 110, some (107, false), .load true 1 (.tmp 109)⟩,
    ⟨some 111, some (107, false), .iaddr 1 (.tmp 108) (.tmp 110)⟩,
    ⟨some 112, some (107, false), .load true 1 (.tmp 111)⟩,
    ⟨some 113, some (103, true), .pick (.tmp 107) (.const (.bool true)) (.tmp 112)⟩,
    ⟨some 114, none, .pick (.tmp 103) (.tmp 113) (.const (.bool false))⟩]) (.cond (.tmp 114) (.reg [
    ⟨some 115, none, .mov (.tmp 0)⟩,
    ⟨some 116, none, .mov (.tmp 3)⟩,
    ⟨some 117, none, .mov (.tmp 4)⟩,
    ⟨some 118, none, .faddr 3 (.tmp 13)⟩,
    ⟨some 119, none, .load false 3 (.tmp 118)⟩,
    ⟨some 120, none, .call 151 [.tmp 115, .tmp 116, .tmp 117, .tmp 119]⟩,
    ⟨some 4, none, .mov (.tmp 120)⟩]) (.skip))))))) (.reg [
    ⟨some 121, none, .bin .add (.tmp 81) (.const (.int .i64 1))⟩,
    ⟨some 81, none, .mov (.tmp 121)⟩]))))))))) (.reg [
    ⟨some 66, none, .mov (.tmp 10)⟩,
    ⟨some 67, none, .bin .add (.tmp 66) (.const (.int .i64 1))⟩,
    ⟨some 10, none, .mov (.tmp 67)⟩]))))))))))) (.seq (.reg [
    ⟨some 122, none, .mov (.tmp 3)⟩,
    ⟨some 2, none, .mov (.tmp 122)⟩]) (.ret))))))))
theorem t114 : Try.f114.body.bind (trC e114) = some c114 := by kernel_rfl
theorem r114 : Try.f114.results.toList.mapM (trR Try.prog) = some [.tmp 2] := by kernel_rfl
theorem fn114 {args : List Value} {M : Mem} {post : Value → Mem → Prop} (hl : args.length ≤ 123) (h : VC e114 c114 (fnQ [.tmp 2] post) (initS args 123) M) : Fn Try.prog 114 args M post :=
  Fn.of' (E := e114) Try.func114 t114 rfl r114 mixed hl h
end Go.Proofs.Ytcmllambknfleaa.E
set_option linter.unusedVariables false
set_option linter.unusedSimpArgs false
set_option maxHeartbeats 4000000
set_option maxRecDepth 100000
namespace Go.Proofs.Ytcmllambknfleaa.E
open Go
open Classical
theorem sound_q {m : Mem} {x : HX} (h : Has m x.body) : Qt Try.prog 105 [x.v] m (.bool (decide (okH x.H = 0))) := by
  refine qt_of (fnA_of (fun h => fn105 (by simp) h) ?_)
  repeat' (first
    | (refine k_L ?_; first | refine a_p rfl ?_ | (refine k_bx ?_; refine a_bx rfl rfl ?_) | (refine k_c ?_; refine a_cq rfl (fun m hm => implHeapOk_q (x := x) (has_g h hm)) ?_))
    | refine a_n ?_
    | (refine k_V ?_; first | refine v_seq ?_ | refine v_reg ?_ | refine v_ret ?_))
  exact fa_q (by simp) (fun _ _ => rfl) rfl
end Go.Proofs.Ytcmllambknfleaa.E
set_option linter.unusedVariables false
set_option linter.unusedSimpArgs false
set_option maxHeartbeats 4000000
set_option maxRecDepth 100000
namespace Go.Proofs.Ytcmllambknfleaa.E
open Go
open Classical
theorem un_le {a b M : Mem} (h1 : a.le M) (h2 : b.le M) : (a.un b).le M := by
  intro x k hk
  cases ha : a x with
  | some k' => rw [un_l ha] at hk; cases hk; exact h1 x k ha
  | none => rw [un_n ha] at hk; exact h2 x k hk
theorem toHeap_a {M : Mem} {x : HS} (hb : x.H.bulk ≤ 1048576) (hx : RHVR M x) : FnA Try.prog 32 [x.v] [ro M] (fun v As => ∃ y : HX, v = y.v ∧ y.H = x.H ∧ As = ro M :: y.body) :=
  ⟨fun m hm => by
    obtain ⟨a, e', d, rfl, h1, h2⟩ := hm
    have h1 : a = M := h1
    have h2 : e' = emp := h2
    subst h1; subst h2
    rw [un_emp]
    refine (toHeap_f hb hx).mono ?_
    rintro v M' ⟨y, rfl, hy, hw, hf, hle⟩
    obtain ⟨x', rfl, hs⟩ := body_w hw
    refine ⟨ro a :: x'.body, a.un (resL M' x'.hs.fp), un_le hle (resL_le _ _), ⟨a, _, ?_, rfl, rfl, hs⟩, x', rfl, hy, rfl⟩
    intro b
    by_cases hb : b ∈ x'.hs.fp
    · exact .inl (hf b hb)
    · right; unfold resL; rw [if_neg hb]⟩
theorem has_p {m : Mem} {As Bs F : List Asr} (hm : star As m) (hp : Pm As Bs F := by (fail_if_success apply pm_bad); (repeat (first | exact pm_nil | (apply pm_cons; repeat (first | exact pk_h | apply pk_t)))); fail_if_success focus skip) : Has m Bs := by
  obtain ⟨a, b, d, rfl, h, _⟩ := star_append.1 (hp.out m hm)
  exact ⟨a, le_l _ _, h⟩
theorem qt_e {P : Program} {f : FuncId} {args : List Value} {m : Mem} {r r' : Value} (h : Qt P f args m r) (e : r = r') : Qt P f args m r' := e ▸ h
end Go.Proofs.Ytcmllambknfleaa.E
set_option linter.unusedVariables false
set_option linter.unusedSimpArgs false
set_option maxHeartbeats 4000000
set_option maxRecDepth 100000
namespace Go.Proofs.Ytcmllambknfleaa.E
open Go
open Classical
theorem getC_nat {H : Heap} {i : Nat} {c : Cell} (h : H.cells[i]? = some c) : H.getC (i : Int) = c := by
  unfold Heap.getC
  simp [h]
theorem last2 {H : Heap} (h : R2 H) {i : Nat} {c : Cell} (hc : H.cells[i]? = some c) (hl : c.last = 2) : c.state = 1 := by
  rcases h.each i c hc with h | h | h
  · have := h.2.1.2.2.1; omega
  · have := h.2.1.2.2.1; omega
  · exact h.1
end Go.Proofs.Ytcmllambknfleaa.E
set_option linter.unusedVariables false
set_option linter.unusedSimpArgs false
namespace Go.Proofs.Ytcmllambknfleaa.E
open Go
open Classical
/-- where a word leads, if it leads to a cell -/
def Heap.tgt (H : Heap) (w : Word) : Option Nat := if (H.lead w).kind = 2 then some (H.lead w).at_.toNat else none
theorem lead_kind {H : Heap} {w : Word} : (H.lead w).kind = 2 ↔ w.kind = 2 := by
  unfold Heap.lead
  split
  · rename_i h; simp [h.1]
  · rfl
theorem lead_at {H : Heap} (h : R2 H) {w : Word} (hf : Formed H w) (hk : w.kind = 2) : 0 ≤ (H.lead w).at_ ∧ (H.lead w).at_ < H.cells.length := by
  have hat := hf.at hk
  unfold Heap.lead
  split
  · rename_i hc
    obtain ⟨c, hcc⟩ : ∃ c, H.cells[w.at_.toNat]? = some c := ⟨_, List.getElem?_eq_getElem (by omega)⟩
    have hg : H.getC w.at_ = c := by unfold Heap.getC; simp [hcc]
    have hcc' := hcc
    rcases h.each _ c hcc with h1 | h1 | h1
    · rw [hg] at hc; have := h1.1; omega
    · rw [hg]
      have := h1.2.2.2.1
      simp only at this ⊢
      omega
    · rw [hg] at hc; have := h1.1; omega
  · exact hat
theorem tgt_lt {H : Heap} (h : R2 H) {w : Word} (hf : Formed H w) {j : Nat} (ht : H.tgt w = some j) : j < H.cells.length ∧ (H.lead w).kind = 2 ∧ (H.lead w).at_ = j := by
  unfold Heap.tgt at ht
  split at ht
  · rename_i hk
    simp only [Option.some.injEq] at ht
    have := lead_at h hf (lead_kind.1 hk)
    exact ⟨by omega, hk, by omega⟩
  · cases ht
/-- one word marked: what is seen, what is to be gone through -/
def mkW (H : Heap) (s : List Bool × List Int) (w : Word) : List Bool × List Int :=
  match H.tgt w with
  | some j => if s.1[j]? = some false then (s.1.set j true, s.2 ++ [(j : Int)]) else s
  | none => s
def Hit (H : Heap) (seen : List Bool) (w : Word) : Prop := ∀ j, H.tgt w = some j → seen[j]? = some true
structure Mk (H : Heap) (S : Nat → Prop) (s : List Bool × List Int) : Prop where
  len : s.1.length = H.cells.length
  snd : ∀ j, s.1[j]? = some true → S j
  stk : ∀ g, g ∈ s.2 → ∃ j : Nat, g = j ∧ s.1[j]? = some true
  cnt : s.2.length + s.1.count false ≤ H.cells.length
/-- nothing is lost: what was seen is seen still, what is newly seen is to be gone through, what was to be gone through is so still -/
structure Grow (s t : List Bool × List Int) : Prop where
  mono : ∀ j : Nat, s.1[j]? = some true → t.1[j]? = some true
  new : ∀ j : Nat, t.1[j]? = some true → s.1[j]? = some true ∨ (j : Int) ∈ t.2
  old : ∀ g, g ∈ s.2 → g ∈ t.2
  msr : 2 * t.1.count false + t.2.length ≤ 2 * s.1.count false + s.2.length
  pre : s.2 <+: t.2
theorem Grow.refl (s : List Bool × List Int) : Grow s s := ⟨fun _ h => h, fun _ h => .inl h, fun _ h => h, Nat.le_refl _, List.prefix_refl _⟩
theorem Grow.trans {s t u : List Bool × List Int} (h : Grow s t) (k : Grow t u) : Grow s u :=
  ⟨fun j hj => k.mono j (h.mono j hj), fun j hj => (k.new j hj).elim (fun h' => (h.new j h').elim .inl fun h'' => .inr (k.old _ h'')) .inr, fun g hg => k.old g (h.old g hg), Nat.le_trans k.msr h.msr, h.pre.trans k.pre⟩
theorem Hit.grow {H : Heap} {s t : List Bool × List Int} {w : Word} (h : Hit H s.1 w) (g : Grow s t) : Hit H t.1 w := fun j hj => g.mono j (h j hj)
theorem count_set {l : List Bool} {j : Nat} (h : l[j]? = some false) : (l.set j true).count false + 1 = l.count false := by
  induction l generalizing j with
  | nil => simp at h
  | cons b r ih =>
    cases j with
    | zero => simp only [List.getElem?_cons_zero, Option.some.injEq] at h; subst h; simp
    | succ j =>
      simp only [List.getElem?_cons_succ] at h
      have := ih h
      simp only [List.set_cons_succ, List.count_cons]
      omega
theorem mkW_ok {H : Heap} {S : Nat → Prop} {s : List Bool × List Int} {w : Word} (h : Mk H S s) (hw : ∀ j, H.tgt w = some j → j < H.cells.length ∧ S j) : Mk H S (mkW H s w) ∧ Grow s (mkW H s w) ∧ Hit H (mkW H s w).1 w := by
  unfold mkW
  cases ht : H.tgt w with
  | none => exact ⟨h, Grow.refl s, fun j hj => by rw [ht] at hj; cases hj⟩
  | some j =>
    obtain ⟨hj, hS⟩ := hw j ht
    simp only
    by_cases hs : s.1[j]? = some false
    · rw [if_pos hs]
      have hc := count_set hs
      have hjl : j < s.1.length := by rw [h.len]; exact hj
      have hset : ∀ k : Nat, (s.1.set j true)[k]? = some true ↔ k = j ∨ s.1[k]? = some true := by
        intro k
        rw [List.getElem?_set]
        by_cases e : j = k
        · subst e; simp [hjl]
        · simp only [e, if_false]
          constructor
          · exact .inr
          · rintro (h | h)
            · exact absurd h.symm e
            · exact h
      refine ⟨⟨by simpa using h.len, fun k hk => ?_, fun g hg => ?_, ?_⟩, ⟨fun k hk => (hset k).2 (.inr hk), fun k hk => ?_, fun g hg => List.mem_append_left _ hg, ?_, List.prefix_append _ _⟩, fun k hk => ?_⟩
      · rcases (hset k).1 hk with rfl | hk
        · exact hS
        · exact h.snd k hk
      · rcases List.mem_append.1 hg with hg | hg
        · obtain ⟨k, e, hk⟩ := h.stk g hg
          exact ⟨k, e, (hset k).2 (.inr hk)⟩
        · exact ⟨j, by simpa using hg, (hset j).2 (.inl rfl)⟩
      · have := h.cnt
        simp only [List.length_append, List.length_singleton]
        omega
      · rcases (hset k).1 hk with rfl | hk
        · exact .inr (List.mem_append_right _ (by simp))
        · exact .inl hk
      · simp only [List.length_append, List.length_singleton]
        omega
      · rw [ht] at hk
        cases hk
        exact (hset j).2 (.inl rfl)
    · rw [if_neg hs]
      refine ⟨h, Grow.refl s, fun k hk => ?_⟩
      rw [ht] at hk
      cases hk
      have hjl : j < s.1.length := by rw [h.len]; exact hj
      rw [List.getElem?_eq_getElem hjl] at hs ⊢
      cases hb : s.1[j] with
      | true => rfl
      | false => rw [hb] at hs; exact absurd rfl hs
end Go.Proofs.Ytcmllambknfleaa.E
set_option linter.unusedVariables false
set_option linter.unusedSimpArgs false
set_option maxHeartbeats 4000000
set_option maxRecDepth 100000
namespace Go.Proofs.Ytcmllambknfleaa.E
open Go
open Classical
/-- a box of one value, written -/
theorem u_b1 {b : Nat} {v w : Value} : UpA (bx b [v]) b 0 [w] (bx b [w]) := up_bx (by simp) ⟨rfl⟩
theorem g_sb {P : Program} {S : St} {As As' : List Asr} {post : St → List Asr → Prop} {r : List I} {x y : Operand} {b : Nat} {v : Value} (hx : lc S x = some (.mm b 0)) (hy : ev S y = some v) (hn : v.cells.size = 1) (hpl : plainCells v.cells.toList = true) (hp : LA P r post S As')
    (hu : Up As b 0 v.cells.toList As' := by (fail_if_success apply up_bad); (repeat (first | exact up_h u_b1 | apply up_t)); fail_if_success focus skip) : LA P (⟨none, none, .store 1 x y⟩ :: r) post S As := a_st hx hy hn hpl hu hp
def Heap.toI (H : Heap) (w : Word) : Int := if w.kind = 2 then (H.lead w).at_ else -1
theorem to_q {m : Mem} {a : Nat} {x : HX} {w : Word} (h : Has m (hp a x)) (hf : w.kind = 2 → 0 ≤ w.at_ ∧ w.at_ < x.H.cells.length) : Qt Try.prog 150 [ptr a, wa w] m (.int .i64 (x.H.toI w)) := by
  refine qt_of (fnA_of (fun h => fn150 (by simp) h) ?_)
  unfold Heap.toI
  repeat' (first
    | (refine k_L ?_; first | refine a_p rfl ?_ | (refine k_bx ?_; refine a_bx rfl rfl ?_) | (refine k_c ?_; refine a_cq rfl (fun m hm => lead_q (x := x.hs) (w := w) (has_g h hm).ph hf) ?_))
    | refine a_n ?_
    | (refine k_V ?_; first | refine v_rv ?_ | refine v_seq ?_ | refine v_reg ?_ | refine v_ret ?_ | refine v_skip ?_ | (refine v_cn rfl (fun hb => ?_) (fun hb => ?_) <;> try (exfalso; omega)))
    | refine s_r ?_)
  · exact fa_q (by simp) (fun _ _ => rfl) (by rw [if_neg (by simp_all)])
  · exact fa_q (by simp) (fun _ _ => rfl) (by rw [if_pos (by simp_all)]; rfl)
/-- what is seen and what is to be gone through, behind the closure's variables -/
abbrev seA (a p1 p2 p3 : Nat) (sd kd : D) (s : List Bool × List Int) : List Asr := [bx p1 [ptr a], bx p2 [.slice sd.a s.1.length sd.cap], slA 1 bv sd s.1, bx p3 [.slice kd.a s.2.length kd.cap], slA 1 iv kd s.2]
theorem holds1_a {m : Mem} {a p1 p2 p3 : Nat} {x : HX} {w : Word} {s : List Bool × List Int} {S : Nat → Prop} {sd kd : D} (h : Has m (hp a x)) (h1 : R1 x.H) (h2 : R2 x.H) (hf : Formed x.H w) (hk : Mk x.H S s) :
    FnA Try.prog 152 [wa w, ptr p1, ptr p2, ptr p3] (seA a p1 p2 p3 sd kd s ++ [ro m]) (fun v As => ∃ kd', As = seA a p1 p2 p3 sd kd' (mkW x.H s w) ++ [ro m]) := by
  have hc := h1.cells
  have hr := h1.room
  have hcn := hk.cnt
  have hln := hk.len
  refine fnA_of (fun h => fn152 (by simp) h) ?_
  have hat := fun hk2 => hf.at hk2
  by_cases hk2 : w.kind = 2
  · have ht : x.H.tgt w = some (x.H.lead w).at_.toNat := by unfold Heap.tgt; rw [if_pos (lead_kind.2 hk2)]
    have hl := tgt_lt h2 hf ht
    generalize (x.H.lead w).at_.toNat = j at ht hl
    have e : x.H.toI w = (j : Int) := by unfold Heap.toI; rw [if_pos hk2]; exact hl.2.2
    cases hb : s.1[j]? with
    | none => rw [List.getElem?_eq_none_iff] at hb; omega
    | some b =>
      cases b with
      | true =>
        have em : mkW x.H s w = s := by unfold mkW; rw [ht]; simp [hb]
        repeat' (first
          | (refine k_L ?_; first | refine a_p rfl ?_ | (refine k_g ?_; refine a_gy rfl rfl ?_) | (refine k_l ?_; refine g_l rfl ?_) | (refine k_i ?_; refine g_i rfl rfl ?_) | (refine k_bx ?_; refine a_bx rfl rfl ?_) | (refine k_c ?_; refine a_cq rfl (fun m hm => qt_e (to_q (has_g h hm) hat) (by rw [e])) ?_))
          | refine a_n ?_
          | (refine k_V ?_; first | refine v_seq ?_ | refine v_reg ?_ | refine v_skip ?_ | refine v_cf rfl ?_))
        exact fa_n (fun _ _ => rfl) (Ent.refl _) ⟨kd, by rw [em]⟩
      | false =>
        have em : mkW x.H s w = (s.1.set j true, s.2 ++ [(j : Int)]) := by unfold mkW; rw [ht]; simp [hb]
        repeat' (first
          | (refine k_L ?_; first | refine a_p rfl ?_ | (refine k_g ?_; refine a_gy rfl rfl ?_) | (refine k_l ?_; refine g_l rfl ?_) | (refine k_i ?_; refine g_i rfl rfl ?_) | (refine k_st ?_; refine g_st rfl rfl rfl rfl ?_) | (refine k_bx ?_; refine a_bx rfl rfl ?_) | (refine k_bl ?_; refine a_bl rfl ?_) | (refine k_c ?_; refine a_cq rfl (fun m hm => qt_e (to_q (has_g h hm) hat) (by rw [e])) ?_) | (refine g_ai rfl rfl (by omega) (fun e' => ?_)) | (refine g_sb rfl rfl rfl rfl ?_))
          | refine a_n ?_
          | (refine k_V ?_; first | refine v_seq ?_ | refine v_reg ?_ | refine v_ct rfl ?_))
        exact fa_n (As' := [bx p1 [ptr a], bx p2 [.slice sd.a s.1.length sd.cap], slA 1 bv sd (s.1.set j true), bx p3 [.slice e'.a (s.2 ++ [(j : Int)]).length e'.cap], slA 1 iv e' (s.2 ++ [(j : Int)]), ro m]) (fun _ _ => rfl) (Pm.ent (by (fail_if_success apply pm_bad); (repeat (first | exact pm_nil | (apply pm_cons; repeat (first | exact pk_h | apply pk_t)))); fail_if_success focus skip)) ⟨e', by rw [em]; simp [seA]⟩
  · have ht : x.H.tgt w = none := by unfold Heap.tgt; rw [if_neg (fun h => hk2 (lead_kind.1 h))]
    have e : x.H.toI w = -1 := by unfold Heap.toI; rw [if_neg hk2]
    have em : mkW x.H s w = s := by unfold mkW; rw [ht]
    repeat' (first
      | (refine k_L ?_; first | refine a_p rfl ?_ | (refine k_g ?_; refine a_gn rfl rfl ?_) | (refine k_l ?_; refine g_l rfl ?_) | (refine k_bx ?_; refine a_bx rfl rfl ?_) | (refine k_c ?_; refine a_cq rfl (fun m hm => qt_e (to_q (has_g h hm) hat) (by rw [e])) ?_))
      | refine a_n ?_
      | (refine k_V ?_; first | refine v_seq ?_ | refine v_reg ?_ | refine v_skip ?_ | refine v_cf rfl ?_))
    exact fa_n (fun _ _ => rfl) (Ent.refl _) ⟨kd, by rw [em]⟩
end Go.Proofs.Ytcmllambknfleaa.E
set_option linter.unusedVariables false
set_option linter.unusedSimpArgs false
set_option maxHeartbeats 8000000
set_option maxRecDepth 100000
namespace Go.Proofs.Ytcmllambknfleaa.E
open Go
open Classical
theorem tgt_root {H : Heap} {i : Nat} {c : Cell} (hc : H.cells[i]? = some c) (hr : c.state = 1) : H.tgt ⟨2, 0, i⟩ = some i := by
  have hg := getC_nat hc
  unfold Heap.tgt Heap.lead
  rw [hg]
  simp [hr]
theorem formed_at {H : Heap} {i : Nat} (h : i < H.cells.length) : Formed H ⟨2, 0, i⟩ := .inr (.inr ⟨rfl, rfl, by simp, by simpa using h⟩)
/-- the first two loops' state -/
structure MkA (H : Heap) (S : Nat → Prop) (s : List Bool × List Int) : Prop where
  ok : Mk H S s
  all : ∀ j : Nat, s.1[j]? = some true → (j : Int) ∈ s.2
theorem MkA.next {H : Heap} {S : Nat → Prop} {s : List Bool × List Int} {w : Word} (h : MkA H S s) (hw : ∀ j, H.tgt w = some j → j < H.cells.length ∧ S j) : MkA H S (mkW H s w) ∧ Grow s (mkW H s w) ∧ Hit H (mkW H s w).1 w := by
  obtain ⟨a, b, c⟩ := mkW_ok h.ok hw
  exact ⟨⟨a, fun j hj => (b.new j hj).elim (fun h' => b.old _ (h.all j h')) id⟩, b, c⟩
theorem mk0 (H : Heap) (S : Nat → Prop) : MkA H S (List.replicate H.cells.length false, []) := by
  have key : ∀ j : Nat, (List.replicate H.cells.length false)[j]? = some true → False := by
    intro j hj
    rw [List.getElem?_replicate] at hj
    split at hj <;> simp at hj
  exact ⟨⟨by simp, fun j hj => (key j hj).elim, fun g hg => (by cases hg), by simp⟩, fun j hj => (key j hj).elim⟩
theorem ent_new {α : Type} {f : α → List Value} {size : Nat} {R : List Asr} : Ent R (slA size f ⟨none, 0⟩ [] :: R) := ent_of fun m h => ⟨emp, m, fun _ => .inl rfl, rfl, ⟨.inl ⟨0, rfl, rfl, rfl⟩, fun _ _ => rfl⟩, h⟩
theorem v_kn {E : Env} {c : C} {Q : X → St → List Asr → Prop} {S : St} {As : List Asr} {p : Prop} (hk : Kn As p) (h : p → VA E c Q S As) : VA E c Q S As := ⟨fun m hm => (h (hk.out m hm)).out m hm⟩
theorem ent_pre {α : Type} {f : α → List Value} {size : Nat} (hs : ∀ x, (f x).length = size) {d : D} {xs ys : List α} {R : List Asr} : Ent (slA size f d (xs ++ ys) :: R) (slA size f d xs :: R) := ent_h fun m h => by
  have := sl_take hs h (k := xs.length) (by simp)
  rwa [List.take_left] at this
abbrev PQ := (List Bool × List Int) × D
end Go.Proofs.Ytcmllambknfleaa.E
set_option linter.unusedVariables false
set_option linter.unusedSimpArgs false
set_option maxHeartbeats 8000000
set_option maxRecDepth 100000
namespace Go.Proofs.Ytcmllambknfleaa.E
open Go
open Classical
theorem getC_pl {H : Heap} (h2 : R2 H) (i : Nat) : (H.getC i).pairs.length ≤ 200 := by
  unfold Heap.getC
  by_cases h : i < H.cells.length
  · have : H.cells.getD (i : Int).toNat ⟨0, 0, 0, 0, 0, 0, 0, []⟩ = H.cells[i] := by simp [h]
    rw [this]; exact h2.pl (List.getElem_mem h)
  · have : H.cells.getD (i : Int).toNat ⟨0, 0, 0, 0, 0, 0, 0, []⟩ = ⟨0, 0, 0, 0, 0, 0, 0, []⟩ := by simp [h]
    rw [this]; simp
end Go.Proofs.Ytcmllambknfleaa.E
