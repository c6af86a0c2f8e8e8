/- A part of the proof. Conditions: none. -/
import Derived.Test.YtcmllambknfleaaKF6
set_option linter.unusedVariables false
set_option linter.unusedSimpArgs false
set_option maxHeartbeats 8000000
set_option maxRecDepth 100000
namespace Go.Proofs.Ytcmllambknfleaa.E
open Go
open Classical
/-- the second rule, of the first cells alone -/
structure R2p (H : Heap) (n : Nat) : Prop where
  each : ∀ (i : Nat) c, i < n → H.cells[i]? = some c → (c.state = 0 ∧ Bare c ∧ c.to = 0) ∨ MovedOk H i c ∨ UsedOk H c
  born : ∀ (i j : Nat) c d, H.cells[i]? = some c → H.cells[j]? = some d → i < j → j < n → c.state = 1 → d.state = 1 → c.born ≠ d.born
  to : ∀ (i j : Nat) c d, H.cells[i]? = some c → H.cells[j]? = some d → i < j → j < n → c.state = 2 → d.state = 2 → c.to ≠ d.to
def bornB (H : Heap) (n : Nat) (b : Int) : Prop := ∃ (j : Nat) (c : Cell), j < n ∧ H.cells[j]? = some c ∧ c.state = 1 ∧ c.born = b
def movedB (H : Heap) (n : Nat) (b : Int) : Prop := ∃ (j : Nat) (c : Cell), j < n ∧ H.cells[j]? = some c ∧ c.state = 2 ∧ c.to = b
theorem R2p.zero (H : Heap) : R2p H 0 := ⟨by omega, by omega, by omega⟩
theorem R2p.all {H : Heap} : R2p H H.cells.length ↔ R2 H :=
  ⟨fun h => ⟨fun i c hc => h.each i c (List.getElem?_eq_some_iff.1 hc).1 hc, fun i j c d hc hd hij => h.born i j c d hc hd hij (List.getElem?_eq_some_iff.1 hd).1, fun i j c d hc hd hij => h.to i j c d hc hd hij (List.getElem?_eq_some_iff.1 hd).1⟩,
   fun h => ⟨fun i c _ => h.each i c, fun i j c d hc hd hij _ => h.born i j c d hc hd hij, fun i j c d hc hd hij _ => h.to i j c d hc hd hij⟩⟩
theorem R2p.next {H : Heap} {n : Nat} {c : Cell} (h : R2p H n) (hc : H.cells[n]? = some c) (h1 : (c.state = 0 ∧ Bare c ∧ c.to = 0) ∨ MovedOk H n c ∨ UsedOk H c) (h2 : c.state = 1 → ¬ bornB H n c.born) (h3 : c.state = 2 → ¬ movedB H n c.to) : R2p H (n + 1) := by
  refine ⟨fun i d hi hd => ?_, fun i j a d ha hd hij hj s1 s2 e => ?_, fun i j a d ha hd hij hj s1 s2 e => ?_⟩
  · by_cases e : i = n
    · subst e; rw [hc] at hd; cases hd; exact h1
    · exact h.each i d (by omega) hd
  · by_cases e' : j = n
    · subst e'; rw [hc] at hd; cases hd; exact h2 s2 ⟨i, a, hij, ha, s1, e⟩
    · exact h.born i j a d ha hd hij (by omega) s1 s2 e
  · by_cases e' : j = n
    · subst e'; rw [hc] at hd; cases hd; exact h3 s2 ⟨i, a, hij, ha, s1, e⟩
    · exact h.to i j a d ha hd hij (by omega) s1 s2 e
theorem bornB_next {H : Heap} {n : Nat} {c : Cell} (hc : H.cells[n]? = some c) (b : Int) : bornB H (n + 1) b ↔ (c.state = 1 ∧ b = c.born) ∨ bornB H n b := by
  constructor
  · rintro ⟨j, d, hj, hd, s, e⟩
    by_cases e' : j = n
    · subst e'; rw [hc] at hd; cases hd; exact .inl ⟨s, e.symm⟩
    · exact .inr ⟨j, d, by omega, hd, s, e⟩
  · rintro (⟨s, e⟩ | ⟨j, d, hj, hd, s, e⟩)
    · exact ⟨n, c, by omega, hc, s, e.symm⟩
    · exact ⟨j, d, by omega, hd, s, e⟩
theorem movedB_next {H : Heap} {n : Nat} {c : Cell} (hc : H.cells[n]? = some c) (b : Int) : movedB H (n + 1) b ↔ (c.state = 2 ∧ b = c.to) ∨ movedB H n b := by
  constructor
  · rintro ⟨j, d, hj, hd, s, e⟩
    by_cases e' : j = n
    · subst e'; rw [hc] at hd; cases hd; exact .inl ⟨s, e.symm⟩
    · exact .inr ⟨j, d, by omega, hd, s, e⟩
  · rintro (⟨s, e⟩ | ⟨j, d, hj, hd, s, e⟩)
    · exact ⟨n, c, by omega, hc, s, e.symm⟩
    · exact ⟨j, d, by omega, hd, s, e⟩
theorem R2.nborn {H : Heap} (h : R2 H) {n : Nat} {c : Cell} (hc : H.cells[n]? = some c) (s : c.state = 1) : ¬ bornB H n c.born := fun ⟨j, d, hj, hd, s', e⟩ => h.born j n d c hd hc hj s' s e
theorem R2.nmoved {H : Heap} (h : R2 H) {n : Nat} {c : Cell} (hc : H.cells[n]? = some c) (s : c.state = 2) : ¬ movedB H n c.to := fun ⟨j, d, hj, hd, s', e⟩ => h.to j n d c hd hc hj s' s e
theorem bornB_same {H : Heap} {n : Nat} {c : Cell} (hc : H.cells[n]? = some c) (s : c.state ≠ 1) : bornB H (n + 1) = bornB H n := by
  funext b; rw [eq_iff_iff, bornB_next hc]; simp [s]
theorem movedB_same {H : Heap} {n : Nat} {c : Cell} (hc : H.cells[n]? = some c) (s : c.state ≠ 2) : movedB H (n + 1) = movedB H n := by
  funext b; rw [eq_iff_iff, movedB_next hc]; simp [s]
theorem R2.free {H : Heap} (h : R2 H) {n : Nat} {c : Cell} (hc : H.cells[n]? = some c) (s : c.state = 0) : Bare c ∧ c.to = 0 := by
  rcases h.each n c hc with h | h | h
  · exact h.2
  · have := h.1; omega
  · have := h.1; omega
theorem R2.moved {H : Heap} (h : R2 H) {n : Nat} {c : Cell} (hc : H.cells[n]? = some c) (s : c.state = 2) : MovedOk H n c := by
  rcases h.each n c hc with h | h | h
  · have := h.1; omega
  · exact h
  · have := h.1; omega
theorem R2.used {H : Heap} (h : R2 H) {n : Nat} {c : Cell} (hc : H.cells[n]? = some c) (s : c.state = 1) : UsedOk H c := by
  rcases h.each n c hc with h | h | h
  · have := h.1; omega
  · have := h.1; omega
  · exact h
theorem rule2_q {m : Mem} {a : Nat} {x : HX} (h : Has m (hp a x)) : Qt Try.prog 96 [ptr a] m (.bool (decide (R2 x.H))) := by
  have hb := h.lens
  have hl := x.len
  refine qt_of (fnA_of (fun h => fn96 (by simp) h) ?_)
  refine v_seq ?_
  repeat' (first
    | (refine k_L ?_; refine a_p rfl ?_)
    | refine a_n ?_
    | (refine k_V ?_; refine v_reg ?_)
    | refine s_n ?_)
  refine v_seq ?_
  refine v_reg ?_
  refine a_mm (fun mb => ?_)
  refine a_mm (fun mt => ?_)
  rw [setM_none, show (fun _ => False : Int → Prop) = bornB x.H 0 from by funext b; simp [bornB]]
  repeat' (first
    | (refine k_L ?_; first | refine a_p rfl ?_ | (refine k_l ?_; refine g_l rfl ?_))
    | refine a_n ?_
    | (refine k_V ?_; first | refine v_seq ?_ | refine v_reg ?_)
    | refine s_n ?_)
  refine g_range x.xs.length (fun _ : Nat => [(0, .v (ptr a)), (3, .v (.map (some mb))), (4, .v (.map (some mt))), (13, .v (.slice x.cd.a x.xs.length x.cd.cap))]) (fun n => [mpA mt (setM (movedB x.H n)), mpA mb (setM (bornB x.H n)), ro m]) (fun i n => n = i ∧ R2p x.H i) 0 ⟨rfl, R2p.zero _⟩ (hent := by rw [show movedB x.H 0 = bornB x.H 0 from by funext b; simp [bornB, movedB]]; exact Ent.refl _) (fun i n hi hv => ?_) (fun n hv => ?_)
  · obtain ⟨rfl, hv⟩ := hv
    obtain ⟨y, gy, gc⟩ := HX.at hi
    have hbp : y.c.pairs.length ≤ 140737488355328 := by obtain ⟨b, l, s⟩ := h; exact (kn_t (kn_t (kn_h (kb_cp gy))) : Kn (hp a x) _).out b s
    refine v_seq ?_
    repeat' (first
      | (refine k_L ?_; first | refine a_p rfl ?_ | (refine k_i ?_; refine g_i rfl rfl ?_) | (refine k_ls ?_; refine g_ls rfl ?_) | (refine k_st ?_; refine g_sw rfl rfl rfl rfl (Nat.le_of_ble_eq_true rfl) ?_) | (refine k_al ?_; refine a_al ?_))
      | refine a_n ?_
      | (refine k_V ?_; refine v_reg ?_)
      | refine s_n ?_
      | refine sk_zero ?_
      | refine sk_succ ?_
      | refine wk_nil ?_
      | refine wk_cons ?_)
    refine v_seq ?_
    repeat' (first
      | (refine k_L ?_; refine a_p rfl ?_)
      | refine a_n ?_
      | (refine k_V ?_; first | refine v_reg ?_ | refine v_bs ?_))
    refine v_seq ?_
    repeat' (first
      | (refine k_L ?_; refine a_p rfl ?_)
      | refine a_n ?_
      | (refine k_V ?_; refine v_reg ?_)
      | refine s_n ?_)
    refine v_ce rfl (fun hs0 => ?_) (fun hs0 => ?_)
    · repeat' (first
        | (refine k_L ?_; first | refine a_p rfl ?_ | (refine k_g ?_; first | refine a_gy rfl rfl ?_ | refine a_gn rfl rfl ?_ | (refine a_gnd rfl (fun hb => ?_) (fun hb => ?_) <;> try (exfalso; omega))) | (refine k_c ?_; refine a_cq rfl (fun m hm => bare_q (y := y)) ?_))
        | refine a_n ?_
        | (refine k_V ?_; first | refine v_rv ?_ | refine v_seq ?_ | refine v_reg ?_ | refine v_skip ?_ | refine v_ct rfl ?_ | (refine v_cn rfl (fun hb => ?_) (fun hb => ?_) <;> try (exfalso; omega)))
        | refine s_r ?_
        | refine b_n ?_
        | refine b_r ?_
        | refine r_rt ?_)
      · exact q_F fun h2 => absurd (h2.free gc hs0).1 ‹_›
      · exact q_F fun h2 => absurd (h2.free gc hs0).2 ‹_›
      · exact r_nx (n + 1) ⟨rfl, hv.next gc (.inl ⟨hs0, ‹_›, ‹_›⟩) (fun s => by omega) (fun s => by omega)⟩ (he := by rw [bornB_same gc (by omega), movedB_same gc (by omega)]; exact Ent.refl _)
    refine v_seq ?_
    repeat' (first
      | (refine k_L ?_; refine a_p rfl ?_)
      | refine a_n ?_
      | (refine k_V ?_; refine v_reg ?_)
      | refine s_n ?_)
    refine v_ce rfl (fun hs2 => ?_) (fun hs2 => ?_)
    · have hnc : (x.hdr.nc : Int) = x.xs.length := rfl
      by_cases hto : 0 ≤ y.c.to ∧ y.c.to ≤ (n : Int) - 1
      · obtain ⟨z, gz, gzc⟩ := HX.atI (x := x) hto.1 (by omega)
        refine v_seq ?_
        refine v_seq ?_
        repeat' (first
          | (refine k_L ?_; first | (refine k_su ?_; refine g_su rfl rfl ?_) | refine a_p rfl ?_ | (refine k_g ?_; first | refine a_gy rfl rfl ?_ | refine a_gn rfl rfl ?_ | (refine a_gd rfl (fun hb => ?_) (fun hb => ?_) <;> try (exfalso; omega)) | (refine a_gne rfl (fun hb => ?_) (fun hb => ?_) <;> try (exfalso; omega)) | (refine a_gnd rfl (fun hb => ?_) (fun hb => ?_) <;> try (exfalso; omega))) | (refine k_l ?_; refine g_l rfl ?_) | (refine k_i ?_; refine g_i rfl rfl ?_) | (refine k_q ?_; first | refine a_q rfl (fun m hm => bare_q (y := y)) ?_ | refine a_q rfl (fun m hm => impl.withinQ) ?_) | (refine a_lk (by (fail_if_success apply pk_bad); (repeat (first | exact pk_h | apply pk_t)); fail_if_success focus skip) rfl rfl (setM_get rfl) ?_))
          | refine a_n ?_
          | (refine k_V ?_; first | refine v_rv ?_ | refine v_dreg ?_ | refine v_skip ?_ | refine v_ct rfl ?_ | (refine v_cd rfl (fun hb => ?_) (fun hb => ?_) <;> try (exfalso; omega)))
          | refine s_n ?_
          | refine s_r ?_
          | refine b_r ?_
          | refine r_rt ?_)
        · exact q_F fun h2 => absurd (h2.moved gc hs2).2.1 ‹_›
        · exact q_F fun h2 => absurd (h2.moved gc hs2).2.2.1 (by show ¬ 4 ≤ x.hdr.phase; omega)
        · exact q_F fun h2 => absurd (gzc ▸ (h2.moved gc hs2).2.2.2.2.1) ‹_›
        · exact q_F fun h2 => absurd ‹movedB _ _ _› (h2.nmoved gc hs2)
        have hmb : ¬ movedB x.H n y.c.to := ‹_›
        have hzs : z.c.state = 1 := ‹_›
        have hbare : Bare y.c := ‹_›
        have hph : ¬ x.hdr.phase < 4 := ‹_›
        refine v_seq ?_
        repeat' (first
          | (refine k_L ?_; first | refine a_p rfl ?_ | (refine a_mu (by (fail_if_success apply pk_bad); (repeat (first | exact pk_h | apply pk_t)); fail_if_success focus skip) rfl rfl rfl ?_; rw [setM_set (q := movedB x.H (n + 1)) (fun b => by rw [movedB_next gc]; simp [hs2])]))
          | refine a_n ?_
          | (refine k_V ?_; refine v_reg ?_)
          | refine s_n ?_)
        refine v_seq ?_
        repeat' (first
          | (refine k_L ?_; refine a_p rfl ?_)
          | refine a_n ?_
          | (refine k_V ?_; refine v_reg ?_)
          | refine s_n ?_)
        refine v_blk ?_
        refine v_loop (fun k : Nat => [(0, .v (ptr a)), (3, .v (.map (some mb))), (4, .v (.map (some mt))), (6, .box (csw y)), (7, .v (.int .i64 k)), (13, .v (.slice x.cd.a x.xs.length x.cd.cap)), (14, .v (.int .i64 x.xs.length)), (15, .v (.int .i64 n))]) (fun _ => [mpA mt (setM (movedB x.H (n + 1))), mpA mb (setM (bornB x.H n)), ro m])
          (fun f k => f = y.c.to.toNat - k ∧ (k : Int) ≤ y.c.to ∧ (x.H.phase = 4 → ∀ j : Int, 0 ≤ j → j < k → (x.H.getC j).state ≠ 0)) ⟨_, 0, ⟨rfl, rfl, rfl, rfl, rfl, rfl, rfl, rfl, trivial⟩, Ent.refl _, rfl, by omega, fun _ j _ _ => by omega⟩ ?_
        rintro f k ⟨rfl, hk, hw⟩
        have done : (x.H.phase = 4 → ∀ j : Int, 0 ≤ j → j < y.c.to → (x.H.getC j).state ≠ 0) → R2p x.H (n + 1) := fun hd =>
          hv.next gc (.inr (.inl ⟨hs2, hbare, by show 4 ≤ x.hdr.phase; omega, ⟨hto.1, by omega⟩, by rw [gzc]; exact hzs, hd⟩)) (fun s => by omega) (fun _ => hmb)
        by_cases hkt : (k : Int) < y.c.to
        · obtain ⟨u, gu, guc⟩ := HX.atI (x := x) (i := (k : Int)) (by omega) (by omega)
          repeat' (first
            | (refine k_L ?_; first | (refine k_ad ?_; refine g_ad rfl rfl ?_) | refine a_p rfl ?_ | (refine k_g ?_; first | refine a_gy rfl rfl ?_ | (refine a_gd rfl (fun hb => ?_) (fun hb => ?_) <;> try (exfalso; omega))) | (refine k_l ?_; refine g_l rfl ?_) | (refine k_i ?_; refine g_i rfl rfl ?_))
            | refine a_n ?_
            | (refine k_V ?_; first | refine v_rv ?_ | refine v_seq ?_ | refine v_reg ?_ | refine v_bs ?_ | refine v_exit ?_ | refine v_skip ?_ | (refine v_cd rfl (fun hb => ?_) (fun hb => ?_) <;> try (exfalso; omega)))
            | refine s_n ?_
            | refine s_r ?_
            | refine s_e ?_
            | refine b_n ?_
            | refine b_r ?_
            | refine b_e ?_
            | refine r_rt ?_)
          · exact q_F fun h2 => (h2.moved gc hs2).2.2.2.2.2 ‹_› k (by omega) hkt (by rw [guc]; assumption)
          · refine ⟨_, k + 1, ?_, ⟨rfl, rfl, rfl, rfl, rfl, rfl, rfl, rfl, trivial⟩, Ent.refl _, rfl, by omega, fun hp j j0 j1 => ?_⟩
            · omega
            · by_cases e : j = k
              · subst e; rw [guc]; assumption
              · exact hw hp j j0 (by omega)
          · exact r_nx (n + 1) ⟨rfl, done fun hp => absurd hp ‹_›⟩ (he := by rw [bornB_same gc (by omega)]; exact Ent.refl _)
        · repeat' (first
            | (refine k_L ?_; first | refine a_p rfl ?_ | (refine k_g ?_; first | refine a_gn rfl rfl ?_ | (refine a_gd rfl (fun hb => ?_) (fun hb => ?_) <;> try (exfalso; omega))))
            | refine a_n ?_
            | (refine k_V ?_; first | refine v_seq ?_ | refine v_reg ?_ | refine v_exit ?_ | refine v_cf rfl ?_)
            | refine s_e ?_
            | refine b_n ?_
            | refine b_e ?_)
          exact r_nx (n + 1) ⟨rfl, done fun hp j j0 j1 => hw hp j j0 (by omega)⟩ (he := by rw [bornB_same gc (by omega)]; exact Ent.refl _)
      · repeat' (first
          | (refine k_L ?_; first | (refine k_su ?_; refine g_su rfl rfl ?_) | refine a_p rfl ?_ | (refine k_g ?_; first | refine a_gy rfl rfl ?_ | refine a_gn rfl rfl ?_ | (refine a_gd rfl (fun hb => ?_) (fun hb => ?_) <;> try (exfalso; omega)) | (refine a_gnd rfl (fun hb => ?_) (fun hb => ?_) <;> try (exfalso; omega))) | (refine k_l ?_; refine g_l rfl ?_) | (refine k_q ?_; first | refine a_q rfl (fun m hm => bare_q (y := y)) ?_ | refine a_q rfl (fun m hm => impl.withinQ) ?_))
          | refine a_n ?_
          | (refine k_V ?_; first | refine v_rv ?_ | refine v_seq ?_ | refine v_dreg ?_ | refine v_ct rfl ?_)
          | refine s_r ?_
          | refine b_r ?_
          | refine r_rt ?_)
        · exact q_F fun h2 => absurd (h2.moved gc hs2).2.1 ‹_›
        · exact q_F fun h2 => absurd (h2.moved gc hs2).2.2.1 (by show ¬ 4 ≤ x.hdr.phase; omega)
        · exact q_F fun h2 => hto ⟨(h2.moved gc hs2).2.2.2.1.1, by have := (h2.moved gc hs2).2.2.2.1.2; omega⟩
    refine v_seq ?_
    repeat' (first
      | (refine k_L ?_; refine a_p rfl ?_)
      | refine a_n ?_
      | (refine k_V ?_; refine v_reg ?_)
      | refine s_n ?_)
    refine v_ce rfl (fun hs1 => ?_) (fun hs1 => ?_)
    · repeat' (first
        | (refine k_L ?_; first | refine a_p rfl ?_ | (refine k_g ?_; first | refine a_gy rfl rfl ?_ | refine a_gn rfl rfl ?_ | (refine a_gd rfl (fun hb => ?_) (fun hb => ?_) <;> try (exfalso; omega)) | (refine a_gne rfl (fun hb => ?_) (fun hb => ?_) <;> try (exfalso; omega)) | (refine a_gnd rfl (fun hb => ?_) (fun hb => ?_) <;> try (exfalso; omega))) | (refine k_l ?_; refine g_l rfl ?_) | (refine k_q ?_; refine a_q rfl (fun m hm => impl.withinQ) ?_) | (refine a_lk (by (fail_if_success apply pk_bad); (repeat (first | exact pk_h | apply pk_t)); fail_if_success focus skip) rfl rfl (setM_get rfl) ?_) | (refine a_mu (by (fail_if_success apply pk_bad); (repeat (first | exact pk_h | apply pk_t)); fail_if_success focus skip) rfl rfl rfl ?_; rw [setM_set (q := bornB x.H (n + 1)) (fun b => by rw [bornB_next gc]; simp [hs1])]))
        | refine a_n ?_
        | (refine k_V ?_; first | refine v_rv ?_ | refine v_seq ?_ | refine v_reg ?_ | refine v_dreg ?_ | refine v_skip ?_ | refine v_ct rfl ?_ | (refine v_cd rfl (fun hb => ?_) (fun hb => ?_) <;> try (exfalso; omega)))
        | refine s_r ?_
        | refine b_n ?_
        | refine b_r ?_
        | refine r_rt ?_)
      · exact q_F fun h2 => absurd (h2.used gc hs1).2.1 ‹_›
      · exact q_F fun h2 => absurd (h2.used gc hs1).2.2.1 ‹_›
      · exact q_F fun h2 => absurd (h2.used gc hs1).2.2.2.1 ‹_›
      · exact q_F fun h2 => absurd (h2.used gc hs1).2.2.2.2.1 ‹_›
      · exact q_F fun h2 => absurd (h2.used gc hs1).2.2.2.2.2.1 ‹_›
      · exact q_F fun h2 => absurd (h2.used gc hs1).2.2.2.2.2.2.1 ‹_›
      · exact q_F fun h2 => absurd (h2.used gc hs1).2.2.2.2.2.2.2 (by omega)
      · exact q_F fun h2 => absurd ‹bornB _ _ _› (h2.nborn gc hs1)
      · exact r_nx (n + 1) ⟨rfl, hv.next gc (.inr (.inr ⟨hs1, ‹_›, ‹_›, ‹_›, ‹_›, ‹_›, ‹_›, by omega⟩)) (fun _ => ‹_›) (fun s => by omega)⟩ (he := by rw [movedB_same gc (by omega)]; exact Pm.ent (by (fail_if_success apply pm_bad); (repeat (first | exact pm_nil | (apply pm_cons; repeat (first | exact pk_h | apply pk_t)))); fail_if_success focus skip))
    · repeat' (first
        | refine a_n ?_
        | (refine k_V ?_; refine v_rv ?_)
        | refine s_r ?_
        | refine b_r ?_
        | refine r_rt ?_)
      exact q_F fun h2 => by
        rcases h2.each n _ gc with h | h | h
        · exact hs0 h.1
        · exact hs2 h.1
        · exact hs1 h.1
  · obtain ⟨rfl, hv⟩ := hv
    repeat' (first
      | refine a_n ?_
      | (refine k_V ?_; refine v_rv ?_))
    exact q_T (R2p.all.1 (by rw [hl]; exact hv))
end Go.Proofs.Ytcmllambknfleaa.E
set_option linter.unusedVariables false
set_option linter.unusedSimpArgs false
set_option maxHeartbeats 4000000
set_option maxRecDepth 100000
namespace Go.Proofs.Ytcmllambknfleaa.E
open Go
open Classical
def OK4 (H : Heap) (i : Nat) (c : Cell) : Prop := (Doomed H i → ¬ Root c) ∧ ∀ (k : Nat) p, c.pairs[k]? = some p → Formed H p.key ∧ Formed H p.val ∧ (¬ Doomed H i → LeadsWell H p.key (¬ Mended H i k) ∧ LeadsWell H p.val (¬ Mended H i k))
theorem leadsWell_b {H : Heap} {w : Word} {b : Bool} {p : Prop} (h : b = true ↔ p) : LeadsWell H w (b = true) ↔ LeadsWell H w p := by unfold LeadsWell; rw [h]
theorem rule4_q {m : Mem} {a : Nat} {x : HX} (h : Has m (hp a x)) : Qt Try.prog 98 [ptr a] m (.bool (decide (R4 x.H))) := by
  have hb := h.lens
  have hl := x.len
  refine qt_of (fnA_of (fun h => fn98 (by simp) h) ?_)
  repeat' (first
    | (refine k_L ?_; first | refine a_p rfl ?_ | (refine k_l ?_; refine g_l rfl ?_))
    | refine a_n ?_
    | (refine k_V ?_; first | refine v_seq ?_ | refine v_reg ?_)
    | refine s_n ?_)
  refine g_range x.regs.length (fun _ : Unit => [(0, .v (ptr a)), (13, .v (.slice x.rd.a x.regs.length x.rd.cap))]) (fun _ => [ro m]) (fun i _ => ∀ (j : Nat) w, j < i → x.regs[j]? = some w → Formed x.H w ∧ LeadsWell x.H w False) () (fun j c hj => by omega) (fun i _ hi hv => ?_) (fun _ hr => ?_)
  · obtain ⟨w, gw⟩ : ∃ w, x.regs[i]? = some w := ⟨_, List.getElem?_eq_getElem hi⟩
    repeat' (first
      | (refine k_L ?_; first | refine a_p rfl ?_ | (refine k_g ?_; first | refine a_gy rfl rfl ?_ | refine a_gn rfl rfl ?_ | (refine a_gnd rfl (fun hb => ?_) (fun hb => ?_) <;> try (exfalso; omega))) | (refine k_i ?_; refine g_i rfl rfl ?_) | (refine k_ls ?_; refine g_ls rfl ?_) | (refine k_st ?_; refine g_sw rfl rfl rfl rfl (Nat.le_of_ble_eq_true rfl) ?_) | (refine k_al ?_; refine a_al ?_) | (refine k_c ?_; first | refine a_cq rfl (fun m hm => formed_g h hm (w := w)) ?_ | refine a_cq rfl (fun m hm => leadsWell_g h ‹_› hm (w := w)) ?_))
      | refine a_n ?_
      | (refine k_V ?_; first | refine v_rv ?_ | refine v_seq ?_ | refine v_reg ?_ | refine v_skip ?_ | refine v_ct rfl ?_ | (refine v_cnd rfl (fun hb => ?_) (fun hb => ?_) <;> try (exfalso; omega)))
      | refine s_r ?_
      | refine r_rt ?_
      | refine sk_zero ?_
      | refine sk_succ ?_
      | refine wk_nil ?_
      | refine wk_cons ?_)
    · exact q_F fun h4 => absurd ((h4.regs w (List.mem_of_getElem? gw)).1) ‹_›
    · exact q_F fun h4 => absurd ((leadsWell_b (b := false) (p := False) (by simp)).2 (h4.regs w (List.mem_of_getElem? gw)).2) ‹_›
    · refine r_nx () (fun j v hj hq => ?_)
      by_cases e : j = i
      · subst e; rw [gw] at hq; cases hq; exact ⟨‹_›, (leadsWell_b (b := false) (p := False) (by simp)).1 ‹_›⟩
      · exact hv j v (by omega) hq
  repeat' (first
    | (refine k_L ?_; first | refine a_p rfl ?_ | (refine k_l ?_; refine g_l rfl ?_))
    | refine a_n ?_
    | (refine k_V ?_; first | refine v_seq ?_ | refine v_reg ?_)
    | refine s_n ?_)
  refine g_range x.xs.length (fun _ : Unit => [(0, .v (ptr a)), (33, .v (.slice x.cd.a x.xs.length x.cd.cap))]) (fun _ => [ro m]) (fun i _ => ∀ (j : Nat) c, j < i → x.H.cells[j]? = some c → OK4 x.H j c) () (fun j c hj => by omega) (fun i _ hi hv => ?_) (fun _ hv => ?_)
  · obtain ⟨y, gy, gc⟩ := HX.at hi
    have hbp : y.c.pairs.length ≤ 140737488355328 := by obtain ⟨b, l, s⟩ := h; exact (kn_t (kn_t (kn_h (kb_cp gy))) : Kn (hp a x) _).out b s
    refine v_seq ?_
    repeat' (first
      | (refine k_L ?_; first | refine a_p rfl ?_ | (refine k_i ?_; refine g_i rfl rfl ?_) | (refine k_ls ?_; refine g_ls rfl ?_) | (refine k_st ?_; refine g_sw rfl rfl rfl rfl (Nat.le_of_ble_eq_true rfl) ?_) | (refine k_al ?_; refine a_al ?_))
      | refine a_n ?_
      | (refine k_V ?_; refine v_reg ?_)
      | refine s_n ?_
      | refine sk_zero ?_
      | refine sk_succ ?_
      | refine wk_nil ?_
      | refine wk_cons ?_)
    refine g_cut (fun _ : Unit => [(0, .v (ptr a)), (5, .v (.int .i64 i)), (6, .box (csw y)), (33, .v (.slice x.cd.a x.xs.length x.cd.cap)), (34, .v (.int .i64 x.xs.length)), (35, .v (.int .i64 i))]) (fun _ => [ro m]) (fun _ => Doomed x.H i → ¬ Root y.c) ?_ (fun _ hdr => ?_)
    · repeat' (first
        | (refine k_L ?_; first | refine a_p rfl ?_ | (refine k_g ?_; first | refine a_gy rfl rfl ?_ | refine a_gn rfl rfl ?_ | (refine a_gd rfl (fun hb => ?_) (fun hb => ?_) <;> try (exfalso; omega))) | (refine k_c ?_; first | refine a_cq rfl (fun m hm => doomed_g h (by omega) (by omega) hm (i := i)) ?_ | refine a_cq rfl (fun m hm => root_q (y := y)) ?_))
        | refine a_n ?_
        | (refine k_V ?_; first | refine v_rv ?_ | refine v_seq ?_ | refine v_reg ?_ | refine v_skip ?_ | refine v_cf rfl ?_ | (refine v_cd rfl (fun hb => ?_) (fun hb => ?_) <;> try (exfalso; omega)))
        | refine s_n ?_
        | refine s_r ?_
        | refine r_rt ?_)
      · exact q_F fun h4 => absurd ‹Root y.c› (h4.roots i _ gc ‹_›)
      all_goals refine j_i () (fun r1 => ?_)
      all_goals first | assumption | exact absurd r1 ‹_›
    repeat' (first
      | (refine k_L ?_; refine a_p rfl ?_)
      | refine a_n ?_
      | (refine k_V ?_; first | refine v_seq ?_ | refine v_reg ?_)
      | refine s_n ?_)
    refine g_range y.c.pairs.length (fun _ : Unit => [(0, .v (ptr a)), (5, .v (.int .i64 i)), (33, .v (.slice x.cd.a x.xs.length x.cd.cap)), (34, .v (.int .i64 x.xs.length)), (35, .v (.int .i64 i)), (48, .v (.slice y.d.a y.c.pairs.length y.d.cap))]) (fun _ => [ro m]) (fun k _ => ∀ (j : Nat) p, j < k → y.c.pairs[j]? = some p → Formed x.H p.key ∧ Formed x.H p.val ∧ (¬ Doomed x.H i → LeadsWell x.H p.key (¬ Mended x.H i j) ∧ LeadsWell x.H p.val (¬ Mended x.H i j))) () (fun j c hj => by omega) (fun k _ hk hv => ?_) (fun _ hw => ?_)
    · obtain ⟨p, gp⟩ : ∃ p, y.c.pairs[k]? = some p := ⟨_, List.getElem?_eq_getElem (by omega)⟩
      have nx : Formed x.H p.key ∧ Formed x.H p.val ∧ (¬ Doomed x.H i → LeadsWell x.H p.key (¬ Mended x.H i k) ∧ LeadsWell x.H p.val (¬ Mended x.H i k)) → ∀ (j : Nat) q, j < k + 1 → y.c.pairs[j]? = some q → Formed x.H q.key ∧ Formed x.H q.val ∧ (¬ Doomed x.H i → LeadsWell x.H q.key (¬ Mended x.H i j) ∧ LeadsWell x.H q.val (¬ Mended x.H i j)) := by
        intro hp j q hj hq
        by_cases e : j = k
        · subst e; rw [gp] at hq; cases hq; exact hp
        · exact hv j q (by omega) hq
      have lw := fun w => leadsWell_b (H := x.H) (w := w) (b := !decide (Mended x.H i k)) (p := ¬ Mended x.H i k) (by simp)
      repeat' (first
        | (refine k_L ?_; first | refine a_p rfl ?_ | (refine k_g ?_; first | refine a_gy rfl rfl ?_ | refine a_gn rfl rfl ?_ | (refine a_gnd rfl (fun hb => ?_) (fun hb => ?_) <;> try (exfalso; omega))) | (refine k_i ?_; refine g_i rfl rfl ?_) | (refine k_ls ?_; refine g_ls rfl ?_) | (refine k_st ?_; refine g_sw rfl rfl rfl rfl (Nat.le_of_ble_eq_true rfl) ?_) | (refine k_al ?_; refine a_al ?_) | (refine k_c ?_; first | refine a_cq rfl (fun m hm => formed_g h hm (w := p.key)) ?_ | refine a_cq rfl (fun m hm => formed_g h hm (w := p.val)) ?_ | refine a_cq rfl (fun m hm => doomed_g h (by omega) (by omega) hm (i := i)) ?_ | refine a_cq rfl (fun m hm => mended_g h hm (i := i) (k := k)) ?_ | refine a_cq rfl (fun m hm => leadsWell_g h ‹_› hm (w := p.key)) ?_ | refine a_cq rfl (fun m hm => leadsWell_g h ‹_› hm (w := p.val)) ?_))
        | refine a_n ?_
        | (refine k_V ?_; first | refine v_rv ?_ | refine v_seq ?_ | refine v_reg ?_ | refine v_exit ?_ | refine v_skip ?_ | refine v_ct rfl ?_ | (refine v_cd rfl (fun hb => ?_) (fun hb => ?_) <;> try (exfalso; omega)) | (refine v_cnd rfl (fun hb => ?_) (fun hb => ?_) <;> try (exfalso; omega)))
        | refine s_r ?_
        | refine s_e ?_
        | refine r_rt ?_
        | refine sk_zero ?_
        | refine sk_succ ?_
        | refine wk_nil ?_
        | refine wk_cons ?_)
      · exact q_F fun h4 => ‹¬ Formed x.H p.key› (h4.pairs i _ gc k p gp).1
      · exact q_F fun h4 => ‹¬ Formed x.H p.val› (h4.pairs i _ gc k p gp).2.1
      · exact r_ct () (nx ⟨‹_›, ‹_›, fun hd => absurd ‹Doomed x.H i› hd⟩)
      · exact q_F fun h4 => absurd ((lw p.key).2 ((h4.pairs i _ gc k p gp).2.2 ‹_›).1) ‹_›
      · exact q_F fun h4 => absurd ((lw p.val).2 ((h4.pairs i _ gc k p gp).2.2 ‹_›).2) ‹_›
      · exact r_nx () (nx ⟨‹_›, ‹_›, fun _ => ⟨(lw p.key).1 ‹_›, (lw p.val).1 ‹_›⟩⟩)
    · repeat' (first
        | (refine k_L ?_; first | (refine k_ad ?_; refine g_ad rfl rfl ?_) | (refine k_su ?_; refine g_su rfl rfl ?_) | (refine k_ml ?_; refine g_ml rfl rfl ?_) | refine a_p rfl ?_ | (refine k_g ?_; first | refine a_gy rfl rfl ?_ | refine a_gn rfl rfl ?_ | refine a_gu rfl ?_ | (refine a_gd rfl (fun hb => ?_) (fun hb => ?_) <;> try (exfalso; omega)) | (refine a_ge rfl (fun hb => ?_) (fun hb => ?_) <;> try (exfalso; omega)) | (refine a_gne rfl (fun hb => ?_) (fun hb => ?_) <;> try (exfalso; omega)) | (refine a_gnd rfl (fun hb => ?_) (fun hb => ?_) <;> try (exfalso; omega))) | (refine k_l ?_; refine g_l rfl ?_) | (refine k_i ?_; refine g_i rfl rfl ?_) | (refine k_ls ?_; refine g_ls rfl ?_) | (refine k_st ?_; first | refine g_st rfl rfl rfl rfl ?_ | refine g_sw rfl rfl rfl rfl (Nat.le_of_ble_eq_true rfl) ?_) | (refine k_al ?_; refine a_al ?_) | (refine k_bx ?_; refine a_bx rfl rfl ?_) | (refine k_bl ?_; refine a_bl rfl ?_) | (refine k_p ?_; first | (refine a_pd rfl (fun hb => ?_) (fun hb => ?_) <;> try (exfalso; omega)) | (refine a_pe rfl (fun hb => ?_) (fun hb => ?_) <;> try (exfalso; omega)) | (refine a_pne rfl (fun hb => ?_) (fun hb => ?_) <;> try (exfalso; omega)) | (refine a_pnd rfl (fun hb => ?_) (fun hb => ?_) <;> try (exfalso; omega))))
        | refine a_n ?_
        | (refine k_V ?_; first | refine v_rv ?_ | refine v_seq ?_ | refine v_reg ?_ | refine v_dreg ?_ | refine v_zreg ?_ | refine v_bs ?_ | refine v_br ?_ | refine v_bd ?_ | refine v_bc ?_ | refine v_bk ?_ | refine v_bb ?_ | refine v_ret ?_ | refine v_exit ?_ | refine v_skip ?_ | refine v_ct rfl ?_ | refine v_cf rfl ?_ | (refine v_cd rfl (fun hb => ?_) (fun hb => ?_) <;> try (exfalso; omega)) | (refine v_ce rfl (fun hb => ?_) (fun hb => ?_) <;> try (exfalso; omega)) | (refine v_cn rfl (fun hb => ?_) (fun hb => ?_) <;> try (exfalso; omega)) | (refine v_cnd rfl (fun hb => ?_) (fun hb => ?_) <;> try (exfalso; omega)))
        | refine s_n ?_
        | refine s_r ?_
        | refine s_e ?_
        | refine b_n ?_
        | refine b_r ?_
        | refine b_e ?_
        | refine b_o rfl ?_
        | refine r_rt ?_
        | refine r_bk rfl ?_
        | refine r_ex rfl rfl ?_
        | refine sk_zero ?_
        | refine sk_succ ?_
        | refine wk_nil ?_
        | refine wk_cons ?_)
      refine r_nx () (fun j c hj hc => ?_)
      by_cases e : j = i
      · subst e; rw [gc] at hc; cases hc
        exact ⟨hdr, fun k p gp => hw k p (List.getElem?_eq_some_iff.1 gp).1 gp⟩
      · exact hv j c (by omega) hc
  · repeat' (first
      | refine a_n ?_
      | (refine k_V ?_; refine v_rv ?_))
    refine q_T ⟨fun w hw => ?_, fun i c hc => (hv i c (by have := (List.getElem?_eq_some_iff.1 hc).1; omega) hc).1, fun i c hc => (hv i c (by have := (List.getElem?_eq_some_iff.1 hc).1; omega) hc).2⟩
    obtain ⟨i, hi⟩ := List.getElem?_of_mem hw
    exact hr i w (List.getElem?_eq_some_iff.1 hi).1 hi
end Go.Proofs.Ytcmllambknfleaa.E
set_option linter.unusedVariables false
set_option linter.unusedSimpArgs false
set_option maxHeartbeats 4000000
set_option maxRecDepth 100000
namespace Go.Proofs.Ytcmllambknfleaa.E
open Go
open Classical
theorem rule8_q {m : Mem} {a : Nat} {x : HX} (h : Has m (hp a x)) (h1 : R1 x.H) : Qt Try.prog 102 [ptr a] m (.bool (decide (R8 x.H))) := by
  have hb := h.lens
  have hh : 0 ≤ x.hdr.hand ∧ x.hdr.hand ≤ x.xs.length := by have := h1.hand; rw [x.len] at this; exact this
  have hnc : x.hdr.nc = x.xs.length := rfl
  refine qt_of (fnA_of (fun h => fn102 (by simp) h) ?_)
  repeat' (first
    | (refine k_L ?_; first | refine a_p rfl ?_ | (refine k_l ?_; refine g_l rfl ?_))
    | refine a_n ?_
    | (refine k_V ?_; first | refine v_seq ?_ | refine v_reg ?_)
    | refine s_n ?_)
  refine v_blk ?_
  refine v_loop (fun i : Int => [(0, .v (ptr a)), (3, .v (.int .i64 i))]) (fun _ => [ro m]) (fun k i => k = (x.xs.length - i).toNat ∧ x.hdr.hand ≤ i ∧ i ≤ x.xs.length ∧ (x.hdr.phase = 6 → ∀ j : Nat, x.hdr.hand ≤ j → j < i → ∀ c, x.H.cells[j]? = some c → c.state ≠ 2))
    ⟨_, x.hdr.hand, ⟨rfl, rfl, trivial⟩, Ent.refl _, rfl, Int.le_refl _, hh.2, fun _ j _ _ => by omega⟩ ?_
  rintro k i ⟨rfl, h2, h3, h4⟩
  by_cases hi : i < x.xs.length
  · obtain ⟨y, gy, gc⟩ := HX.at (x := x) (i := i.toNat) (by omega)
    repeat' (first
      | (refine k_L ?_; first | (refine k_ad ?_; refine g_ad rfl rfl ?_) | refine a_p rfl ?_ | (refine k_g ?_; first | refine a_gy rfl rfl ?_ | refine a_gn rfl rfl ?_ | (refine a_gd rfl (fun hb => ?_) (fun hb => ?_) <;> try (exfalso; omega))) | (refine k_l ?_; refine g_l rfl ?_) | (refine k_i ?_; refine g_i rfl rfl ?_))
      | refine a_n ?_
      | (refine k_V ?_; first | refine v_rv ?_ | refine v_seq ?_ | refine v_reg ?_ | refine v_bs ?_ | refine v_exit ?_ | refine v_skip ?_ | refine v_cf rfl ?_ | (refine v_cd rfl (fun hb => ?_) (fun hb => ?_) <;> try (exfalso; omega)))
      | refine s_n ?_
      | refine s_r ?_
      | refine b_r ?_)
    · exact q_F fun h8 => h8 ‹_› i.toNat _ gc (by show x.hdr.hand ≤ _; omega) ‹_›
    · refine ⟨_, i + 1, ?_, ⟨rfl, rfl, trivial⟩, Ent.refl _, rfl, by omega, by omega, fun h6 j a1 a2 c hc => ?_⟩
      · omega
      · by_cases e : (j : Int) < i
        · exact h4 h6 j a1 e c hc
        · have : j = i.toNat := by omega
          subst this
          rw [gc] at hc; cases hc; assumption
    all_goals exact q_T fun h6 => absurd h6 ‹_›
  · repeat' (first
      | (refine k_L ?_; first | refine a_p rfl ?_ | (refine k_g ?_; first | refine a_gy rfl rfl ?_ | refine a_gn rfl rfl ?_ | (refine a_gd rfl (fun hb => ?_) (fun hb => ?_) <;> try (exfalso; omega))) | (refine k_l ?_; refine g_l rfl ?_))
      | refine a_n ?_
      | (refine k_V ?_; first | refine v_rv ?_ | refine v_seq ?_ | refine v_reg ?_ | refine v_exit ?_ | refine v_cf rfl ?_ | (refine v_cd rfl (fun hb => ?_) (fun hb => ?_) <;> try (exfalso; omega))))
    · exact q_T fun h6 j c hc hj => h4 h6 j hj (by have := (List.getElem?_eq_some_iff.1 hc).1; have := x.len; omega) c hc
    all_goals exact q_T fun h6 => absurd h6 ‹_›
def OK7 (H : Heap) (i : Nat) (c : Cell) : Prop := (Root c → c.color = 0 → H.phase ≠ 2 ∧ H.hand ≤ i) ∧ ∀ (k : Nat) p, c.pairs[k]? = some p → (k : Int) < scanned H i c → ¬ White H p.key ∧ ¬ White H p.val
theorem rule7_q {m : Mem} {a : Nat} {x : HX} (h : Has m (hp a x)) (h1 : R1 x.H) (h4 : R4 x.H) (h6 : R6 x.H) : Qt Try.prog 101 [ptr a] m (.bool (decide (R7 x.H))) := by
  have hb := h.lens
  have hl := x.len
  refine qt_of (fnA_of (fun h => fn101 (by simp) h) ?_)
  repeat' (first
    | (refine k_L ?_; first | refine a_p rfl ?_ | (refine k_l ?_; refine g_l rfl ?_) | (refine k_c ?_; refine a_cq rfl (fun m hm => marking_g h hm) ?_))
    | refine a_n ?_
    | (refine k_V ?_; first | refine v_rv ?_ | refine v_seq ?_ | refine v_reg ?_ | refine v_skip ?_ | (refine v_cnd rfl (fun hb => ?_) (fun hb => ?_) <;> try (exfalso; omega)))
    | refine s_n ?_
    | refine s_r ?_)
  · exact q_T fun hk => absurd hk ‹_›
  rename_i hmk
  have g0 : (∃ g, x.gray[(0 : Int).toNat]? = some g ∧ x.H.gray.head? = some g) ∨ (x.hdr.ng : Int) = 0 ∧ x.H.gray.head? = none := by
    show (∃ g, x.gray[(0 : Int).toNat]? = some g ∧ x.gray.head? = some g) ∨ (x.gray.length : Int) = 0 ∧ x.gray.head? = none
    cases x.gray with
    | nil => exact .inr ⟨rfl, rfl⟩
    | cons g r => exact .inl ⟨g, rfl, rfl⟩
  have hng : x.hdr.ng = x.gray.length := rfl
  refine g_range x.xs.length (fun _ : Unit => [(0, .v (ptr a)), (14, .v (.slice x.cd.a x.xs.length x.cd.cap))]) (fun _ => [ro m]) (fun i _ => ∀ (j : Nat) c, j < i → x.H.cells[j]? = some c → OK7 x.H j c) () (fun j c hj => by omega) (fun i _ hi hv => ?_) (fun _ hv => ?_)
  · obtain ⟨y, gy, gc⟩ := HX.at hi
    have hcp := (kn_t (kn_t (kn_h (kc_cp gy))) : Kn (hp a x) _)
    have hcap : y.c.pairs.length ≤ y.d.cap := by obtain ⟨b, l, s⟩ := h; exact hcp.out b s
    have hsc : (if y.c.color = 2 then (y.c.pairs.length : Int) else if x.hdr.phase = 2 ∧ x.H.gray.head? = some (i : Int) then x.hdr.sub else 0) = scanned x.H i y.c := rfl
    refine v_seq ?_
    repeat' (first
      | (refine k_L ?_; first | refine a_p rfl ?_ | (refine k_i ?_; refine g_i rfl rfl ?_) | (refine k_ls ?_; refine g_ls rfl ?_) | (refine k_st ?_; refine g_sw rfl rfl rfl rfl (Nat.le_of_ble_eq_true rfl) ?_) | (refine k_al ?_; refine a_al ?_))
      | refine a_n ?_
      | (refine k_V ?_; refine v_reg ?_)
      | refine s_n ?_
      | refine sk_zero ?_
      | refine sk_succ ?_
      | refine wk_nil ?_
      | refine wk_cons ?_)
    refine g_cut (fun _ : Unit => [(0, .v (ptr a)), (3, .v (.int .i64 i)), (4, .box (csw y)), (14, .v (.slice x.cd.a x.xs.length x.cd.cap)), (15, .v (.int .i64 x.xs.length)), (16, .v (.int .i64 i))]) (fun _ => [ro m]) (fun _ => Root y.c → y.c.color = 0 → x.hdr.phase ≠ 2 ∧ x.hdr.hand ≤ i) ?_ (fun _ hr => ?_)
    · repeat' (first
        | (refine k_L ?_; first | refine a_p rfl ?_ | (refine k_g ?_; first | refine a_gy rfl rfl ?_ | refine a_gn rfl rfl ?_ | refine a_gu rfl ?_ | (refine a_gd rfl (fun hb => ?_) (fun hb => ?_) <;> try (exfalso; omega))) | (refine k_l ?_; refine g_l rfl ?_) | (refine k_c ?_; refine a_cq rfl (fun m hm => root_q (y := y)) ?_))
        | refine a_n ?_
        | (refine k_V ?_; first | refine v_rv ?_ | refine v_seq ?_ | refine v_reg ?_ | refine v_skip ?_ | refine v_ct rfl ?_ | refine v_cf rfl ?_ | (refine v_cd rfl (fun hb => ?_) (fun hb => ?_) <;> try (exfalso; omega)))
        | refine s_n ?_
        | refine s_r ?_
        | refine r_rt ?_)
      · exact q_F fun h7 => absurd ‹x.hdr.phase = 2› ((h7 ‹_› i _ gc).1 ‹_› ‹_›).1
      · exact q_F fun h7 => absurd ((h7 ‹_› i _ gc).1 ‹_› ‹_›).2 (by show ¬ x.hdr.hand ≤ _; omega)
      all_goals refine j_i () (fun r1 r2 => ?_)
      · exact ⟨‹_›, by omega⟩
      all_goals first | exact absurd r1 ‹_› | exact absurd r2 ‹_›
    refine v_seq ?_
    repeat' (first
      | (refine k_L ?_; refine a_p rfl ?_)
      | refine a_n ?_
      | (refine k_V ?_; refine v_reg ?_)
      | refine s_n ?_)
    refine g_cut (fun n : Int => [(0, .v (ptr a)), (3, .v (.int .i64 i)), (4, .box (csw y)), (5, .v (.int .i64 n)), (14, .v (.slice x.cd.a x.xs.length x.cd.cap)), (15, .v (.int .i64 x.xs.length)), (16, .v (.int .i64 i))]) (fun _ => [ro m]) (fun n => n = scanned x.H i y.c) ?_ (fun n hn => ?_)
    · rw [← hsc]
      rcases g0 with ⟨g, g0, g1⟩ | ⟨g0, g1⟩
      · have hlg := (List.getElem?_eq_some_iff.1 g0).1
        have hlg2 : (0 : Int) < x.hdr.ng := by rw [hng]; have : (0 : Int).toNat = 0 := rfl; omega
        repeat' (first
          | (refine k_L ?_; first | refine a_p rfl ?_ | (refine k_g ?_; first | refine a_gy rfl rfl ?_ | refine a_gn rfl rfl ?_ | (refine a_gd rfl (fun hb => ?_) (fun hb => ?_) <;> try (exfalso; omega))) | (refine k_l ?_; refine g_l rfl ?_) | (refine k_i ?_; refine g_i rfl rfl ?_))
          | refine a_n ?_
          | (refine k_V ?_; first | refine v_seq ?_ | refine v_reg ?_ | refine v_skip ?_ | refine v_cf rfl ?_ | (refine v_cd rfl (fun hb => ?_) (fun hb => ?_) <;> try (exfalso; omega)))
          | refine s_n ?_)
        all_goals refine j_i _ ?_
        all_goals simp_all
      · repeat' (first
          | (refine k_L ?_; first | refine a_p rfl ?_ | (refine k_g ?_; first | refine a_gy rfl rfl ?_ | refine a_gn rfl rfl ?_ | (refine a_gd rfl (fun hb => ?_) (fun hb => ?_) <;> try (exfalso; omega))) | (refine k_l ?_; refine g_l rfl ?_))
          | refine a_n ?_
          | (refine k_V ?_; first | refine v_seq ?_ | refine v_reg ?_ | refine v_skip ?_ | refine v_cf rfl ?_ | (refine v_cd rfl (fun hb => ?_) (fun hb => ?_) <;> try (exfalso; omega)))
          | refine s_n ?_)
        all_goals refine j_i _ ?_
        all_goals simp_all
    have hbp : y.c.pairs.length ≤ 140737488355328 := by obtain ⟨b, l, s⟩ := h; exact (kn_t (kn_t (kn_h (kb_cp gy))) : Kn (hp a x) _).out b s
    have hn0 : 0 ≤ n ∧ n ≤ y.c.pairs.length := by
      rw [hn, ← hsc]
      split
      · omega
      · split
        · rename_i hg
          have hg2 := h6
          unfold R6 at hg2
          have hp : x.H.phase = 2 := hg.1
          rw [if_neg (by rw [hp]; decide), if_pos hp] at hg2
          cases hgr : x.H.gray with
          | nil => rw [hgr] at hg; simp at hg
          | cons g r =>
            rw [hgr] at hg hg2
            have hgi : g = (i : Int) := by simpa using hg.2
            have h3 := hg2.2
            simp only [hgi] at h3
            have hgc : x.H.getC (i : Int) = y.c := by unfold Heap.getC; rw [List.getD_eq_getElem?_getD]; show (x.H.cells[i]?).getD _ = _; rw [gc]; rfl
            rw [hgc] at h3
            exact ⟨h1.sub.1, h3⟩
        · omega
    repeat' (first
      | (refine k_L ?_; first | refine a_p rfl ?_ | (refine g_tk (e := y.d) rfl rfl ?_))
      | refine a_n ?_
      | (refine k_V ?_; first | refine v_seq ?_ | refine v_reg ?_)
      | refine s_n ?_)
    refine g_range n.toNat (fun _ : Unit => [(0, .v (ptr a)), (14, .v (.slice x.cd.a x.xs.length x.cd.cap)), (15, .v (.int .i64 x.xs.length)), (16, .v (.int .i64 i)), (79, .v (.slice y.d.a n.toNat y.d.cap))]) (fun _ => [ro m]) (fun k _ => ∀ (j : Nat) p, j < k → y.c.pairs[j]? = some p → ¬ White x.H p.key ∧ ¬ White x.H p.val) () (fun j c hj => by omega) (fun k _ hk hv => ?_) (fun _ hw => ?_)
    · obtain ⟨p, gp⟩ : ∃ p, y.c.pairs[k]? = some p := ⟨_, List.getElem?_eq_getElem (by omega)⟩
      obtain ⟨f1, f2, _⟩ := h4.pairs i _ gc k p gp
      repeat' (first
        | (refine k_L ?_; first | refine a_p rfl ?_ | (refine k_g ?_; first | refine a_gy rfl rfl ?_ | refine a_gn rfl rfl ?_ | (refine a_gd rfl (fun hb => ?_) (fun hb => ?_) <;> try (exfalso; omega))) | (refine k_i ?_; refine g_i rfl rfl ?_) | (refine k_ls ?_; refine g_ls rfl ?_) | (refine k_st ?_; refine g_sw rfl rfl rfl rfl (Nat.le_of_ble_eq_true rfl) ?_) | (refine k_al ?_; refine a_al ?_) | (refine k_c ?_; first | refine a_cq rfl (fun m hm => white_g h f1 hm) ?_ | refine a_cq rfl (fun m hm => white_g h f2 hm) ?_))
        | refine a_n ?_
        | (refine k_V ?_; first | refine v_rv ?_ | refine v_seq ?_ | refine v_reg ?_ | refine v_skip ?_ | refine v_ct rfl ?_ | (refine v_cd rfl (fun hb => ?_) (fun hb => ?_) <;> try (exfalso; omega)))
        | refine s_r ?_
        | refine r_rt ?_
        | refine sk_zero ?_
        | refine sk_succ ?_
        | refine wk_nil ?_
        | refine wk_cons ?_)
      · exact q_F fun h7 => ((h7 ‹_› i _ gc).2 k p gp (by rw [← hn]; omega)).1 ‹_›
      · exact q_F fun h7 => ((h7 ‹_› i _ gc).2 k p gp (by rw [← hn]; omega)).2 ‹_›
      · refine r_nx () (fun j q hj hq => ?_)
        by_cases e : j = k
        · subst e; rw [gp] at hq; cases hq; exact ⟨‹_›, ‹_›⟩
        · exact hv j q (by omega) hq
    · repeat' (first
        | (refine k_L ?_; first | (refine k_ad ?_; refine g_ad rfl rfl ?_) | (refine k_su ?_; refine g_su rfl rfl ?_) | (refine k_ml ?_; refine g_ml rfl rfl ?_) | refine a_p rfl ?_ | (refine k_g ?_; first | refine a_gy rfl rfl ?_ | refine a_gn rfl rfl ?_ | refine a_gu rfl ?_ | (refine a_gd rfl (fun hb => ?_) (fun hb => ?_) <;> try (exfalso; omega)) | (refine a_ge rfl (fun hb => ?_) (fun hb => ?_) <;> try (exfalso; omega)) | (refine a_gne rfl (fun hb => ?_) (fun hb => ?_) <;> try (exfalso; omega)) | (refine a_gnd rfl (fun hb => ?_) (fun hb => ?_) <;> try (exfalso; omega))) | (refine k_l ?_; refine g_l rfl ?_) | (refine k_i ?_; refine g_i rfl rfl ?_) | (refine k_ls ?_; refine g_ls rfl ?_) | (refine k_st ?_; first | refine g_st rfl rfl rfl rfl ?_ | refine g_sw rfl rfl rfl rfl (Nat.le_of_ble_eq_true rfl) ?_) | (refine k_al ?_; refine a_al ?_) | (refine k_bx ?_; refine a_bx rfl rfl ?_) | (refine k_bl ?_; refine a_bl rfl ?_) | (refine k_p ?_; first | (refine a_pd rfl (fun hb => ?_) (fun hb => ?_) <;> try (exfalso; omega)) | (refine a_pe rfl (fun hb => ?_) (fun hb => ?_) <;> try (exfalso; omega)) | (refine a_pne rfl (fun hb => ?_) (fun hb => ?_) <;> try (exfalso; omega)) | (refine a_pnd rfl (fun hb => ?_) (fun hb => ?_) <;> try (exfalso; omega))))
        | refine a_n ?_
        | (refine k_V ?_; first | refine v_rv ?_ | refine v_seq ?_ | refine v_reg ?_ | refine v_dreg ?_ | refine v_zreg ?_ | refine v_bs ?_ | refine v_br ?_ | refine v_bd ?_ | refine v_bc ?_ | refine v_bk ?_ | refine v_bb ?_ | refine v_ret ?_ | refine v_exit ?_ | refine v_skip ?_ | refine v_ct rfl ?_ | refine v_cf rfl ?_ | (refine v_cd rfl (fun hb => ?_) (fun hb => ?_) <;> try (exfalso; omega)) | (refine v_ce rfl (fun hb => ?_) (fun hb => ?_) <;> try (exfalso; omega)) | (refine v_cn rfl (fun hb => ?_) (fun hb => ?_) <;> try (exfalso; omega)) | (refine v_cnd rfl (fun hb => ?_) (fun hb => ?_) <;> try (exfalso; omega)))
        | refine s_n ?_
        | refine s_r ?_
        | refine s_e ?_
        | refine b_n ?_
        | refine b_r ?_
        | refine b_e ?_
        | refine b_o rfl ?_
        | refine r_rt ?_
        | refine r_bk rfl ?_
        | refine r_ex rfl rfl ?_
        | refine sk_zero ?_
        | refine sk_succ ?_
        | refine wk_nil ?_
        | refine wk_cons ?_)
      refine r_nx () (fun j c hj hc => ?_)
      by_cases e : j = i
      · subst e; rw [gc] at hc; cases hc
        exact ⟨hr, fun k p gp hk => hw k p (by rw [← hn] at hk; omega) gp⟩
      · exact hv j c (by omega) hc
  · repeat' (first
      | refine a_n ?_
      | (refine k_V ?_; refine v_rv ?_))
    exact q_T fun hm i c hc => hv i c (by have := (List.getElem?_eq_some_iff.1 hc).1; omega) hc
end Go.Proofs.Ytcmllambknfleaa.E
set_option linter.unusedVariables false
set_option linter.unusedSimpArgs false
set_option maxHeartbeats 4000000
set_option maxRecDepth 100000
namespace Go.Proofs.Ytcmllambknfleaa.E
open Go
open Classical
theorem fnOk_of {P : Program} {g : FuncId} {fn : Func} (h : P.funcs[g]? = some fn) (hb : fn.body.isSome = true) (hn : (fn.name != "runtime.NumGoroutine") = true) : fnOk P g = true := by
  unfold fnOk; rw [h]; simp only [hb, hn]; rfl
theorem a_nwh {P : Program} {S : St} {As : List Asr} {post : St → List Asr → Prop} {r : List I} {d : Option Nat} {t : Operand} (x : HX) (hx : ev S t = some x.v) (hp : ∀ b, LA P r post (put S d (.v (ptr b))) (hdA b x.hdr :: As)) : LA P (⟨d, none, .box false t⟩ :: r) post S As :=
  a_nw (vs := x.row) hx rfl hp
def nRule (H : Heap) : Nat → Prop
  | 0 => R1 H
  | 1 => R2 H
  | 2 => R3 H
  | 3 => R4 H
  | 4 => R5 H
  | 5 => R6 H
  | 6 => R7 H
  | _ => R8 H
theorem okH_at {H : Heap} {n : Nat} (hn : n < 8) (h : ∀ j, j < n → nRule H j) (hf : ¬ nRule H n) : okH H = (n : Int) + 1 := by
  have g : ∀ j, j < 8 → j < n → nRule H j := fun j _ => h j
  have g0 := g 0; have g1 := g 1; have g2 := g 2; have g3 := g 3; have g4 := g 4; have g5 := g 5; have g6 := g 6
  simp only [nRule] at g0 g1 g2 g3 g4 g5 g6
  unfold okH
  rcases (by omega : n = 0 ∨ n = 1 ∨ n = 2 ∨ n = 3 ∨ n = 4 ∨ n = 5 ∨ n = 6 ∨ n = 7) with rfl | rfl | rfl | rfl | rfl | rfl | rfl | rfl <;> simp only [nRule] at hf <;> simp_all
theorem okH_all {H : Heap} (h : ∀ j, j < 8 → nRule H j) : okH H = 0 :=
  (okH_sound H).2 ⟨h 0 (by omega), h 1 (by omega), h 2 (by omega), h 3 (by omega), h 4 (by omega), h 5 (by omega), h 6 (by omega), h 7 (by omega)⟩
def fnV (b g : Nat) : Value := .func (.func g) #[ptr b] #[]
def rlS (b : Nat) : List Value := [fnV b 95, fnV b 96, fnV b 97, fnV b 98, fnV b 99, fnV b 100, fnV b 101, fnV b 102]
theorem r_v1 {d : D} {xs : List Value} {i : Nat} {v : Value} (hi : xs[i]? = some v) : RdA (slA 1 (fun v : Value => [v]) d xs) d.b (d.o + i * 1) v := rd_sl (j := 0) (fun _ => rfl) hi rfl
theorem implHeapOk_q {m : Mem} {x : HX} (h : Has m x.body) : Qt Try.prog 33 [x.v] m (.int .i64 (okH x.H)) := by
  refine qt_of (fnA_of (fun h => fn33 (by simp) h) ?_)
  refine v_seq (v_reg (a_nwh x rfl (fun b => ?_)))
  have hs : ∀ m', star [hdA b x.hdr, ro m] m' → Has m' (hp b x) := fun m' s => has_new h s (by (fail_if_success apply pm_bad); (repeat (first | exact pm_nil | (apply pm_cons; repeat (first | exact pk_h | apply pk_t)))); fail_if_success focus skip) (F := [])
  repeat' (first
    | (refine k_L ?_; first | refine a_p rfl ?_ | (refine a_ns (f := fun v : Value => [v]) (rlS b) (fun _ => rfl) rfl rfl rfl (by omega) (fun e he => ?_)))
    | refine a_n ?_
    | (refine k_V ?_; first | refine v_seq ?_ | refine v_reg ?_)
    | refine s_n ?_)
  refine g_range 8 (fun _ : Unit => [(13, .v (.slice e.a 8 8))]) (fun _ => [slA 1 (fun v : Value => [v]) e (rlS b), hdA b x.hdr, ro m]) (fun i _ => ∀ j, j < i → nRule x.H j) () (fun j hj => by omega) (fun i _ hi hv => ?_) (fun _ hv => ?_)
  · have hH : ∀ m', star [slA 1 (fun v : Value => [v]) e (rlS b), hdA b x.hdr, ro m] m' → Has m' (hp b x) := fun m' ⟨m1, m2, d, e1, _, s⟩ => by subst e1; exact (hs m2 s).le (le_r d)
    have nx : nRule x.H i → ∀ j, j < i + 1 → nRule x.H j := fun hr j hj => by
      by_cases e : j = i
      · subst e; exact hr
      · exact hv j (by omega)
    rcases (by omega : i = 0 ∨ i = 1 ∨ i = 2 ∨ i = 3 ∨ i = 4 ∨ i = 5 ∨ i = 6 ∨ i = 7) with rfl | rfl | rfl | rfl | rfl | rfl | rfl | rfl
    · have gk : (rlS b)[0]? = some (fnV b 95) := rfl
      repeat' (first
        | (refine k_L ?_; first | (refine k_ad ?_; refine g_ad rfl rfl ?_) | refine a_p rfl ?_ | (refine k_l ?_; refine a_l rfl (by exact rd_h (r_v1 (i := 0) rfl)) ?_) | (refine k_i ?_; refine g_i rfl rfl ?_) | (refine a_cvq rfl (fnOk_of Try.func95 rfl rfl) rfl (fun m hm => rule1_q (hH m hm)) ?_))
        | refine a_n ?_
        | (refine k_V ?_; first | refine v_seq ?_ | refine v_reg ?_ | refine v_ret ?_ | refine v_skip ?_ | (refine v_cnd rfl (fun hb => ?_) (fun hb => ?_) <;> try (exfalso; omega)))
        | refine s_r ?_
        | refine r_rt ?_)
      · exact fa_q (by simp) (fun _ _ => rfl) (by rw [okH_at (n := 0) (by omega) hv ‹_›])
      · exact r_nx () (nx ‹_›)
    · have gk : (rlS b)[1]? = some (fnV b 96) := rfl
      repeat' (first
        | (refine k_L ?_; first | (refine k_ad ?_; refine g_ad rfl rfl ?_) | refine a_p rfl ?_ | (refine k_l ?_; refine a_l rfl (by exact rd_h (r_v1 (i := 1) rfl)) ?_) | (refine k_i ?_; refine g_i rfl rfl ?_) | (refine a_cvq rfl (fnOk_of Try.func96 rfl rfl) rfl (fun m hm => rule2_q (hH m hm)) ?_))
        | refine a_n ?_
        | (refine k_V ?_; first | refine v_seq ?_ | refine v_reg ?_ | refine v_ret ?_ | refine v_skip ?_ | (refine v_cnd rfl (fun hb => ?_) (fun hb => ?_) <;> try (exfalso; omega)))
        | refine s_r ?_
        | refine r_rt ?_)
      · exact fa_q (by simp) (fun _ _ => rfl) (by rw [okH_at (n := 1) (by omega) hv ‹_›])
      · exact r_nx () (nx ‹_›)
    · have gk : (rlS b)[2]? = some (fnV b 97) := rfl
      repeat' (first
        | (refine k_L ?_; first | (refine k_ad ?_; refine g_ad rfl rfl ?_) | refine a_p rfl ?_ | (refine k_l ?_; refine a_l rfl (by exact rd_h (r_v1 (i := 2) rfl)) ?_) | (refine k_i ?_; refine g_i rfl rfl ?_) | (refine a_cvq rfl (fnOk_of Try.func97 rfl rfl) rfl (fun m hm => rule3_q (hH m hm) (hv 0 (by omega)) (hv 1 (by omega))) ?_))
        | refine a_n ?_
        | (refine k_V ?_; first | refine v_seq ?_ | refine v_reg ?_ | refine v_ret ?_ | refine v_skip ?_ | (refine v_cnd rfl (fun hb => ?_) (fun hb => ?_) <;> try (exfalso; omega)))
        | refine s_r ?_
        | refine r_rt ?_)
      · exact fa_q (by simp) (fun _ _ => rfl) (by rw [okH_at (n := 2) (by omega) hv ‹_›])
      · exact r_nx () (nx ‹_›)
    · have gk : (rlS b)[3]? = some (fnV b 98) := rfl
      repeat' (first
        | (refine k_L ?_; first | (refine k_ad ?_; refine g_ad rfl rfl ?_) | refine a_p rfl ?_ | (refine k_l ?_; refine a_l rfl (by exact rd_h (r_v1 (i := 3) rfl)) ?_) | (refine k_i ?_; refine g_i rfl rfl ?_) | (refine a_cvq rfl (fnOk_of Try.func98 rfl rfl) rfl (fun m hm => rule4_q (hH m hm)) ?_))
        | refine a_n ?_
        | (refine k_V ?_; first | refine v_seq ?_ | refine v_reg ?_ | refine v_ret ?_ | refine v_skip ?_ | (refine v_cnd rfl (fun hb => ?_) (fun hb => ?_) <;> try (exfalso; omega)))
        | refine s_r ?_
        | refine r_rt ?_)
      · exact fa_q (by simp) (fun _ _ => rfl) (by rw [okH_at (n := 3) (by omega) hv ‹_›])
      · exact r_nx () (nx ‹_›)
    · have gk : (rlS b)[4]? = some (fnV b 99) := rfl
      repeat' (first
        | (refine k_L ?_; first | (refine k_ad ?_; refine g_ad rfl rfl ?_) | refine a_p rfl ?_ | (refine k_l ?_; refine a_l rfl (by exact rd_h (r_v1 (i := 4) rfl)) ?_) | (refine k_i ?_; refine g_i rfl rfl ?_) | (refine a_cvq rfl (fnOk_of Try.func99 rfl rfl) rfl (fun m hm => rule5_q (hH m hm)) ?_))
        | refine a_n ?_
        | (refine k_V ?_; first | refine v_seq ?_ | refine v_reg ?_ | refine v_ret ?_ | refine v_skip ?_ | (refine v_cnd rfl (fun hb => ?_) (fun hb => ?_) <;> try (exfalso; omega)))
        | refine s_r ?_
        | refine r_rt ?_)
      · exact fa_q (by simp) (fun _ _ => rfl) (by rw [okH_at (n := 4) (by omega) hv ‹_›])
      · exact r_nx () (nx ‹_›)
    · have gk : (rlS b)[5]? = some (fnV b 100) := rfl
      repeat' (first
        | (refine k_L ?_; first | (refine k_ad ?_; refine g_ad rfl rfl ?_) | refine a_p rfl ?_ | (refine k_l ?_; refine a_l rfl (by exact rd_h (r_v1 (i := 5) rfl)) ?_) | (refine k_i ?_; refine g_i rfl rfl ?_) | (refine a_cvq rfl (fnOk_of Try.func100 rfl rfl) rfl (fun m hm => rule6_q (hH m hm) (hv 0 (by omega)) (hv 4 (by omega))) ?_))
        | refine a_n ?_
        | (refine k_V ?_; first | refine v_seq ?_ | refine v_reg ?_ | refine v_ret ?_ | refine v_skip ?_ | (refine v_cnd rfl (fun hb => ?_) (fun hb => ?_) <;> try (exfalso; omega)))
        | refine s_r ?_
        | refine r_rt ?_)
      · exact fa_q (by simp) (fun _ _ => rfl) (by rw [okH_at (n := 5) (by omega) hv ‹_›])
      · exact r_nx () (nx ‹_›)
    · have gk : (rlS b)[6]? = some (fnV b 101) := rfl
      repeat' (first
        | (refine k_L ?_; first | (refine k_ad ?_; refine g_ad rfl rfl ?_) | refine a_p rfl ?_ | (refine k_l ?_; refine a_l rfl (by exact rd_h (r_v1 (i := 6) rfl)) ?_) | (refine k_i ?_; refine g_i rfl rfl ?_) | (refine a_cvq rfl (fnOk_of Try.func101 rfl rfl) rfl (fun m hm => rule7_q (hH m hm) (hv 0 (by omega)) (hv 3 (by omega)) (hv 5 (by omega))) ?_))
        | refine a_n ?_
        | (refine k_V ?_; first | refine v_seq ?_ | refine v_reg ?_ | refine v_ret ?_ | refine v_skip ?_ | (refine v_cnd rfl (fun hb => ?_) (fun hb => ?_) <;> try (exfalso; omega)))
        | refine s_r ?_
        | refine r_rt ?_)
      · exact fa_q (by simp) (fun _ _ => rfl) (by rw [okH_at (n := 6) (by omega) hv ‹_›])
      · exact r_nx () (nx ‹_›)
    · have gk : (rlS b)[7]? = some (fnV b 102) := rfl
      repeat' (first
        | (refine k_L ?_; first | (refine k_ad ?_; refine g_ad rfl rfl ?_) | refine a_p rfl ?_ | (refine k_l ?_; refine a_l rfl (by exact rd_h (r_v1 (i := 7) rfl)) ?_) | (refine k_i ?_; refine g_i rfl rfl ?_) | (refine a_cvq rfl (fnOk_of Try.func102 rfl rfl) rfl (fun m hm => rule8_q (hH m hm) (hv 0 (by omega))) ?_))
        | refine a_n ?_
        | (refine k_V ?_; first | refine v_seq ?_ | refine v_reg ?_ | refine v_ret ?_ | refine v_skip ?_ | (refine v_cnd rfl (fun hb => ?_) (fun hb => ?_) <;> try (exfalso; omega)))
        | refine s_r ?_
        | refine r_rt ?_)
      · exact fa_q (by simp) (fun _ _ => rfl) (by rw [okH_at (n := 7) (by omega) hv ‹_›])
      · exact r_nx () (nx ‹_›)
  · repeat' (first
      | refine a_n ?_
      | (refine k_V ?_; refine v_rv ?_))
    exact fa_q (by simp) (fun _ _ => rfl) (by rw [okH_all hv])
end Go.Proofs.Ytcmllambknfleaa.E
set_option maxRecDepth 100000
set_option linter.unusedVariables false
namespace Go.Proofs.Ytcmllambknfleaa.E
open Go
noncomputable def e84 : Env := ⟨Try.prog, [], 103, [(1, 40), (5, 38)]⟩
noncomputable def c84 : C :=
  .seq (.reg [
    ⟨some 2, none, .mov (.const (.bool false))⟩]) (.seq (.seq (.dreg 40 [
    ⟨some 3, none, .mov (.tmp 0)⟩,
    ⟨some 4, none, .nilCheck (.tmp 3)⟩,
    ⟨some 5, none, .faddr 0 (.tmp 4)⟩,
    ⟨some 6, none, .load true 1 (.tmp 5)⟩,
    ⟨some 7, none, .qcall 69 [.tmp 6, .const (.int .i64 1), .const (.int .i64 4000)]⟩,
    ⟨some 8, none, .not (.tmp 7)⟩,
    ⟨some 9, none, .mov (.tmp 8)⟩,
    ⟨some 10, some (9, false), .mov (.tmp 0)⟩,
    ⟨some 11, some (9, false), .nilCheck (.tmp 10)⟩,
    ⟨some 12, some (9, false), .faddr 3 (.tmp 11)⟩,
    ⟨some 13, some (9, false), .load true 1 (.tmp 12)⟩,
    ⟨some 14, some (9, false), .lenS (.tmp 13)⟩,
    ⟨some 15, some (9, false), .bin .neq (.tmp 14) (.const (.int .i64 16))⟩,
    ⟨some 16, none, .pick (.tmp 9) (.const (.bool true)) (.tmp 15)⟩,
    ⟨some 17, none, .mov (.tmp 16)⟩,
    ⟨some 18, some (17, false), .mov (.tmp 0)⟩,
    ⟨some 19, some (17, false), .nilCheck (.tmp 18)⟩,
    ⟨some 20, some (17, false), .faddr 4 (.tmp 19)⟩,
    ⟨some 21, some (17, false), .load true 1 (.tmp 20)⟩,
    ⟨some 22, some (17, false), .lenS (.tmp 21)⟩,
    ⟨some 23, some (17, false), .mov (.tmp 0)⟩,
    ⟨some 24, some (17, false), .nilCheck (.tmp 23)⟩,
    ⟨some 25, some (17, false), .faddr 0 (.tmp 24)⟩,
    ⟨some 26, some (17, false), .load true 1 (.tmp 25)⟩,
    ⟨some 27, some (17, false), .bin .mul (.const (.int .i64 2)) (.tmp 26)⟩,
    ⟨some 28, some (17, false), .bin .gtr (.tmp 22) (.tmp 27)⟩,
    ⟨some 29, none, .pick (.tmp 17) (.const (.bool true)) (.tmp 28)⟩,
    ⟨some 30, none, .mov (.tmp 29)⟩,
    ⟨some 31, some (30, false), .mov (.tmp 0)⟩,
    ⟨some 32, some (30, false), .nilCheck (.tmp 31)⟩,
    ⟨some 33, some (30, false), .faddr 8 (.tmp 32)⟩,
    ⟨some 34, some (30, false), .load true 1 (.tmp 33)⟩,
    ⟨some 35, some (30, false), .lenS (.tmp 34)⟩,
    ⟨some 36, some (30, false), .mov (.tmp 0)⟩,
    ⟨some 37, some (30, false), .nilCheck (.tmp 36)⟩,
    ⟨some 38, some (30, false), .faddr 4 (.tmp 37)⟩,
    ⟨some 39, some (30, false), .load true 1 (.tmp 38)⟩,
    ⟨some 40, some (30, false), .lenS (.tmp 39)⟩,
    ⟨some 41, some (30, false), .bin .gtr (.tmp 35) (.tmp 40)⟩,
    ⟨some 42, none, .pick (.tmp 30) (.const (.bool true)) (.tmp 41)⟩]) (.cond (.tmp 42) (.seq (.reg [
    ⟨some 2, none, .mov (.const (.bool false))⟩]) (.ret)) (.skip))) (.seq (.seq (.reg [
    ⟨some 43, none, .mov (.tmp 0)⟩,
    ⟨some 44, none, .nilCheck (.tmp 43)⟩,
    ⟨some 45, none, .faddr 2 (.tmp 44)⟩,
    ⟨some 46, none, .load true 1 (.tmp 45)⟩,
    ⟨some 47, none, .call 69 [.tmp 46, .const (.int .i64 0), .const (.int .i64 1000000000)]⟩,
    ⟨some 48, none, .not (.tmp 47)⟩,
    ⟨some 49, none, .mov (.tmp 48)⟩,
    ⟨some 50, some (49, false), .mov (.tmp 0)⟩,
    ⟨some 51, some (49, false), .nilCheck (.tmp 50)⟩,
    ⟨some 52, some (49, false), .faddr 11 (.tmp 51)⟩,
    ⟨some 53, some (49, false), .load true 1 (.tmp 52)⟩,
    ⟨some 54, some (49, false), .call 69 [.tmp 53, .const (.int .i64 0), .const (.int .i64 1000000000)]⟩,
    ⟨some 55, some (49, false), .not (.tmp 54)⟩,
    ⟨some 56, none, .pick (.tmp 49) (.const (.bool true)) (.tmp 55)⟩,
    ⟨some 57, none, .mov (.tmp 56)⟩,
    ⟨some 58, some (57, false), .mov (.tmp 0)⟩,
    ⟨some 59, some (57, false), .nilCheck (.tmp 58)⟩,
    ⟨some 60, some (57, false), .faddr 12 (.tmp 59)⟩,
    ⟨some 61, some (57, false), .load true 1 (.tmp 60)⟩,
    ⟨some 62, some (57, false), .call 69 [.tmp 61, .const (.int .i64 0), .const (.int .i64 1000000000)]⟩,
    ⟨some 63, some (57, false), .not (.tmp 62)⟩,
    ⟨some 64, none, .pick (.tmp 57) (.const (.bool true)) (.tmp 63)⟩]) (.cond (.tmp 64) (.seq (.reg [
    ⟨some 2, none, .mov (.const (.bool false))⟩]) (.ret)) (.skip))) (.seq (.dreg 38 [
    ⟨some 65, none, .mov (.tmp 0)⟩,
    ⟨some 66, none, .nilCheck (.tmp 65)⟩,
    ⟨some 67, none, .faddr 9 (.tmp 66)⟩,
    ⟨some 68, none, .load true 1 (.tmp 67)⟩,
    ⟨some 69, none, .qcall 69 [.tmp 68, .const (.int .i64 0), .const (.int .i64 64)]⟩,
    ⟨some 70, none, .mov (.tmp 69)⟩,
    ⟨some 71, some (70, true), .mov (.tmp 0)⟩,
    ⟨some 72, some (70, true), .nilCheck (.tmp 71)⟩,
    ⟨some 73, some (70, true), .faddr 10 (.tmp 72)⟩,
    ⟨some 74, some (70, true), .load true 1 (.tmp 73)⟩,
    ⟨some 75, some (70, true), .qcall 69 [.tmp 74, .const (.int .i64 0), .const (.int .i64 4000)]⟩,
    ⟨some 76, none, .pick (.tmp 70) (.tmp 75) (.const (.bool false))⟩,
    ⟨some 77, none, .mov (.tmp 76)⟩,
    ⟨some 78, some (77, true), .mov (.tmp 0)⟩,
    ⟨some 79, some (77, true), .nilCheck (.tmp 78)⟩,
    ⟨some 80, some (77, true), .faddr 5 (.tmp 79)⟩,
    ⟨some 81, some (77, true), .load true 1 (.tmp 80)⟩,
    ⟨some 82, some (77, true), .qcall 69 [.tmp 81, .const (.int .i64 0), .const (.int .i64 6)]⟩,
    ⟨some 83, none, .pick (.tmp 77) (.tmp 82) (.const (.bool false))⟩,
    ⟨some 84, none, .mov (.tmp 83)⟩,
    ⟨some 85, some (84, true), .mov (.tmp 0)⟩,
    ⟨some 86, some (84, true), .nilCheck (.tmp 85)⟩,
    ⟨some 87, some (84, true), .faddr 6 (.tmp 86)⟩,
    ⟨some 88, some (84, true), .load true 1 (.tmp 87)⟩,
    ⟨some 89, some (84, true), .mov (.tmp 0)⟩,
    ⟨some 90, some (84, true), .nilCheck (.tmp 89)⟩,
    ⟨some 91, some (84, true), .faddr 4 (.tmp 90)⟩,
    ⟨some 92, some (84, true), .load true 1 (.tmp 91)⟩,
    ⟨some 93, some (84, true), .lenS (.tmp 92)⟩,
    ⟨some 94, some (84, true), .qcall 69 [.tmp 88, .const (.int .i64 0), .tmp 93]⟩,
    ⟨some 95, none, .pick (.tmp 84) (.tmp 94) (.const (.bool false))⟩,
    ⟨some 96, none, .mov (.tmp 95)⟩,
    ⟨some 97, some (96, true), .mov (.tmp 0)⟩,
    ⟨some 98, some (96, true), .nilCheck (.tmp 97)⟩,
    ⟨some 99, some (96, true), .faddr 7 (.tmp 98)⟩,
    ⟨some 100, some (96, true), .load true 1 (.tmp 99)⟩,
    ⟨some 101, some (96, true), .qcall 69 [.tmp 100, .const (.int .i64 0), .const (.int .i64 200)]⟩,
    ⟨some 102, none, .pick (.tmp 96) (.tmp 101) (.const (.bool false))⟩,
    ⟨some 2, none, .mov (.tmp 102)⟩]) (.ret))))
theorem t84 : Try.f84.body.bind (trC e84) = some c84 := by kernel_rfl
theorem r84 : Try.f84.results.toList.mapM (trR Try.prog) = some [.tmp 2] := by kernel_rfl
theorem fn84 {args : List Value} {M : Mem} {post : Value → Mem → Prop} (hl : args.length ≤ 103) (h : VC e84 c84 (fnQ [.tmp 2] post) (initS args 103) M) : Fn Try.prog 84 args M post :=
  Fn.of' (E := e84) Try.func84 t84 rfl r84 mixed hl h
noncomputable def e85 : Env := ⟨Try.prog, [4], 156, [(19, 43)]⟩
noncomputable def c85 : C :=
  .seq (.reg [
    ⟨some 2, none, .mov (.const (.bool false))⟩]) (.seq (.seq (.reg [
    ⟨some 7, none, .mov (.tmp 0)⟩,
    ⟨some 8, none, .nilCheck (.tmp 7)⟩,
    ⟨some 9, none, .faddr 4 (.tmp 8)⟩,
    ⟨some 10, none, .load true 1 (.tmp 9)⟩,
    ⟨some 11, none, .lenS (.tmp 10)⟩,
    ⟨some 12, none, .mov (.const (.int .i64 0))⟩]) (.block 0 (.loop (.seq (.reg [
    ⟨some 13, none, .bin .lss (.tmp 12) (.tmp 11)⟩]) (.seq (.cond (.tmp 13) (.skip) (.exit 0)) (.seq (.block 1 (.seq (.reg [
    ⟨some 14, none, .mov (.tmp 12)⟩,
    ⟨some 15, none, .iaddr 8 (.tmp 10) (.tmp 12)⟩,
    ⟨some 16, none, .load false 8 (.tmp 15)⟩,
    ⟨some 4, none, .alloc true [.int .i64 0, .int .i64 0, .int .i64 0, .int .i64 0, .int .i64 0, .int .i64 0, .int .i64 0, .slice none 0 0]⟩,
    ⟨some 3, none, .mov (.tmp 14)⟩,
    ⟨none, none, .store 8 (.tmp 4) (.tmp 16)⟩]) (.seq (.reg [
    ⟨some 17, none, .faddr 1 (.tmp 4)⟩,
    ⟨some 18, none, .load true 1 (.tmp 17)⟩,
    ⟨some 19, none, .bin .eql (.tmp 18) (.const (.int .i64 0))⟩,
    ⟨some 20, none, .mov (.tmp 19)⟩,
    ⟨some 21, some (20, true), .faddr 2 (.tmp 4)⟩,
    ⟨some 22, some (20, true), .load true 1 (.tmp 21)⟩,
    ⟨some 23, some (20, true), .bin .eql (.tmp 22) (.const (.int .i64 0))⟩,
    ⟨some 24, none, .pick (.tmp 20) (.tmp 23) (.const (.bool false))⟩,
    ⟨some 25, none, .mov (.tmp 24)⟩,
    ⟨some 26, some (25, true), .faddr 3 (.tmp 4)⟩,
    ⟨some 27, some (25, true), .load true 1 (.tmp 26)⟩,
    ⟨some 28, some (25, true), .bin .eql (.tmp 27) (.const (.int .i64 0))⟩,
    ⟨some 29, none, .pick (.tmp 25) (.tmp 28) (.const (.bool false))⟩,
    ⟨some 30, none, .mov (.tmp 29)⟩,
    ⟨some 31, some (30, true), .faddr 4 (.tmp 4)⟩,
    ⟨some 32, some (30, true), .load true 1 (.tmp 31)⟩,
    ⟨some 33, some (30, true), .bin .eql (.tmp 32) (.const (.int .i64 0))⟩,
    ⟨some 34, none, .pick (.tmp 30) (.tmp 33) (.const (.bool false))⟩,
    ⟨some 35, none, .mov (.tmp 34)⟩,
    ⟨some 36, some (35, true), .faddr 5 (.tmp 4)⟩,
    ⟨some 37, some (35, true), .load true 1 (.tmp 36)⟩,
    ⟨some 38, some (35, true), .bin .eql (.tmp 37) (.const (.int .i64 0))⟩,
    ⟨some 39, none, .pick (.tmp 35) (.tmp 38) (.const (.bool false))⟩,
    ⟨some 40, none, .mov (.tmp 39)⟩,
    ⟨some 41, some (40, true), .faddr 7 (.tmp 4)⟩,
    ⟨some 42, some (40, true), .load true 1 (.tmp 41)⟩,
    ⟨some 43, some (40, true), .lenS (.tmp 42)⟩,
    ⟨some 44, some (40, true), .bin .eql (.tmp 43) (.const (.int .i64 0))⟩,
    ⟨some 45, none, .pick (.tmp 40) (.tmp 44) (.const (.bool false))⟩,
    ⟨some 5, none, .mov (.tmp 45)⟩]) (.seq (.reg [
    ⟨some 46, none, .faddr 0 (.tmp 4)⟩,
    ⟨some 47, none, .load true 1 (.tmp 46)⟩]) (.block 2 (.seq (.reg [
    ⟨some 49, none, .bin .eql (.tmp 47) (.const (.int .i64 0))⟩,
    ⟨some 48, none, .mov (.tmp 49)⟩]) (.cond (.tmp 48) (.seq (.reg [
    ⟨some 50, none, .mov (.tmp 5)⟩,
    ⟨some 51, none, .not (.tmp 50)⟩,
    ⟨some 52, none, .mov (.tmp 51)⟩,
    ⟨some 53, some (52, false), .faddr 6 (.tmp 4)⟩,
    ⟨some 54, some (52, false), .load true 1 (.tmp 53)⟩,
    ⟨some 55, some (52, false), .bin .neq (.tmp 54) (.const (.int .i64 0))⟩,
    ⟨some 56, none, .pick (.tmp 52) (.const (.bool true)) (.tmp 55)⟩]) (.cond (.tmp 56) (.seq (.reg [
    ⟨some 2, none, .mov (.const (.bool false))⟩]) (.ret)) (.skip))) (.seq (.reg [
    ⟨some 58, none, .bin .eql (.tmp 47) (.const (.int .i64 2))⟩,
    ⟨some 57, none, .mov (.tmp 58)⟩]) (.cond (.tmp 57) (.seq (.seq (.reg [
    ⟨some 59, none, .mov (.tmp 5)⟩,
    ⟨some 60, none, .not (.tmp 59)⟩,
    ⟨some 61, none, .mov (.tmp 60)⟩,
    ⟨some 62, some (61, false), .mov (.tmp 0)⟩,
    ⟨some 63, some (61, false), .nilCheck (.tmp 62)⟩,
    ⟨some 64, some (61, false), .faddr 5 (.tmp 63)⟩,
    ⟨some 65, some (61, false), .load true 1 (.tmp 64)⟩,
    ⟨some 66, some (61, false), .bin .lss (.tmp 65) (.const (.int .i64 4))⟩,
    ⟨some 67, none, .pick (.tmp 61) (.const (.bool true)) (.tmp 66)⟩,
    ⟨some 68, none, .mov (.tmp 67)⟩,
    ⟨some 69, some (68, false), .faddr 6 (.tmp 4)⟩,
    ⟨some 70, some (68, false), .load true 1 (.tmp 69)⟩,
    ⟨some 71, some (68, false), .bin .lss (.tmp 70) (.const (.int .i64 0))⟩,
    ⟨some 72, none, .pick (.tmp 68) (.const (.bool true)) (.tmp 71)⟩,
    ⟨some 73, none, .mov (.tmp 72)⟩,
    ⟨some 74, some (73, false), .faddr 6 (.tmp 4)⟩,
    ⟨some 75, some (73, false), .load true 1 (.tmp 74)⟩,
    ⟨some 76, some (73, false), .mov (.tmp 3)⟩,
    ⟨some 77, some (73, false), .bin .geq (.tmp 75) (.tmp 76)⟩,
    ⟨some 78, none, .pick (.tmp 73) (.const (.bool true)) (.tmp 77)⟩,
    ⟨some 79, none, .mov (.tmp 78)⟩,
    ⟨some 80, some (79, false), .mov (.tmp 0)⟩,
    ⟨some 81, some (79, false), .faddr 6 (.tmp 4)⟩,
    ⟨some 82, some (79, false), .load true 1 (.tmp 81)⟩,
    ⟨some 83, some (79, false), .call 134 [.tmp 80, .tmp 82]⟩,
    ⟨some 84, some (79, false), .not (.tmp 83)⟩,
    ⟨some 85, none, .pick (.tmp 79) (.const (.bool true)) (.tmp 84)⟩]) (.cond (.tmp 85) (.seq (.reg [
    ⟨some 2, none, .mov (.const (.bool false))⟩]) (.ret)) (.skip))) (.seq (.reg [
    ⟨some 6, none, .mov (.const (.int .i64 0))⟩]) (.block 3 (.loop (.seq (.seq (.reg [
    ⟨some 86, none, .mov (.tmp 6)⟩,
    ⟨some 87, none, .faddr 6 (.tmp 4)⟩,
    ⟨some 88, none, .load true 1 (.tmp 87)⟩,
    ⟨some 89, none, .bin .lss (.tmp 86) (.tmp 88)⟩,
    ⟨some 90, none, .mov (.tmp 89)⟩,
    ⟨some 91, some (90, true), .mov (.tmp 0)⟩,
    ⟨some 92, some (90, true), .nilCheck (.tmp 91)⟩,
    ⟨some 93, some (90, true), .faddr 5 (.tmp 92)⟩,
    ⟨some 94, some (90, true), .load true 1 (.tmp 93)⟩,
    ⟨some 95, some (90, true), .bin .eql (.tmp 94) (.const (.int .i64 4))⟩,
    ⟨some 96, none, .pick (.tmp 90) (.tmp 95) (.const (.bool false))⟩]) (.cond (.tmp 96) (.skip) (.exit 3))) (.seq (.block 4 (.seq (.reg [
    ⟨some 99, none, .mov (.tmp 0)⟩,
    ⟨some 100, none, .nilCheck (.tmp 99)⟩,
    ⟨some 101, none, .faddr 4 (.tmp 100)⟩,
    ⟨some 102, none, .load true 1 (.tmp 101)⟩,
    ⟨some 103, none, .mov (.tmp 6)⟩,
    ⟨some 104, none, .iaddr 8 (.tmp 102) (.tmp 103)⟩,
    ⟨some 105, none, .faddr 0 (.tmp 104)⟩,
    ⟨some 106, none, .load true 1 (.tmp 105)⟩,
    ⟨some 107, none, .bin .eql (.tmp 106) (.const (.int .i64 0))⟩]) (.cond (.tmp 107) (.seq (.reg [
    ⟨some 2, none, .mov (.const (.bool false))⟩]) (.ret)) (.skip)))) (.reg [
    ⟨some 97, none, .mov (.tmp 6)⟩,
    ⟨some 98, none, .bin .add (.tmp 97) (.const (.int .i64 1))⟩,
    ⟨some 6, none, .mov (.tmp 98)⟩]))))))) (.seq (.reg [
    ⟨some 109, none, .bin .eql (.tmp 47) (.const (.int .i64 1))⟩,
    ⟨some 108, none, .mov (.tmp 109)⟩]) (.cond (.tmp 108) (.seq (.dreg 43 [
    ⟨some 110, none, .faddr 1 (.tmp 4)⟩,
    ⟨some 111, none, .load true 1 (.tmp 110)⟩,
    ⟨some 112, none, .qcall 69 [.tmp 111, .const (.int .i64 0), .const (.int .i64 255)]⟩,
    ⟨some 113, none, .not (.tmp 112)⟩,
    ⟨some 114, none, .mov (.tmp 113)⟩,
    ⟨some 115, some (114, false), .faddr 2 (.tmp 4)⟩,
    ⟨some 116, some (114, false), .load true 1 (.tmp 115)⟩,
    ⟨some 117, some (114, false), .qcall 69 [.tmp 116, .const (.int .i64 0), .const (.int .i64 3)]⟩,
    ⟨some 118, some (114, false), .not (.tmp 117)⟩,
    ⟨some 119, none, .pick (.tmp 114) (.const (.bool true)) (.tmp 118)⟩,
    ⟨some 120, none, .mov (.tmp 119)⟩,
    ⟨some 121, some (120, false), .faddr 3 (.tmp 4)⟩,
    ⟨some 122, some (120, false), .load true 1 (.tmp 121)⟩,
    ⟨some 123, some (120, false), .qcall 69 [.tmp 122, .const (.int .i64 0), .const (.int .i64 3)]⟩,
    ⟨some 124, some (120, false), .not (.tmp 123)⟩,
    ⟨some 125, none, .pick (.tmp 120) (.const (.bool true)) (.tmp 124)⟩,
    ⟨some 126, none, .mov (.tmp 125)⟩,
    ⟨some 127, some (126, false), .faddr 4 (.tmp 4)⟩,
    ⟨some 128, some (126, false), .load true 1 (.tmp 127)⟩,
    ⟨some 129, some (126, false), .mov (.tmp 0)⟩,
    ⟨some 130, some (126, false), .nilCheck (.tmp 129)⟩,
    ⟨some 131, some (126, false), .faddr 2 (.tmp 130)⟩,
    ⟨some 132, some (126, false), .load true 1 (.tmp 131)⟩,
    ⟨some 133, some (126, false), .qcall 69 [.tmp 128, .const (.int .i64 1), .tmp 132]⟩,
    ⟨some 134, some (126, false), .not (.tmp 133)⟩,
    ⟨some 135, none, .pick (.tmp 126) (.const (.bool true)) (.tmp 134)⟩,
    ⟨some 136, none, .mov (.tmp 135)⟩,
    ⟨some 137, some (136, false), .faddr 5 (.tmp 4)⟩,
    ⟨some 138, some (136, false), .load true 1 (.tmp 137)⟩,
    ⟨some 139, some (136, false), .qcall 69 [.tmp 138, .const (.int .i64 0), .const (.int .i64 2)]⟩,
    ⟨some 140, some (136, false), .not (.tmp 139)⟩,
    ⟨some 141, none, .pick (.tmp 136) (.const (.bool true)) (.tmp 140)⟩,
    ⟨some 142, none, .mov (.tmp 141)⟩,
    ⟨some 143, some (142, false), .faddr 6 (.tmp 4)⟩,
    ⟨some 144, some (142, false), .load true 1 (.tmp 143)⟩,
    ⟨some 145, some (142, false), .bin .neq (.tmp 144) (.const (.int .i64 0))⟩,
    ⟨some 146, none, .pick (.tmp 142) (.const (.bool true)) (.tmp 145)⟩,
    ⟨some 147, none, .mov (.tmp 146)⟩,
    ⟨some 148, some (147, false), .faddr 7 (.tmp 4)⟩,
    ⟨some 149, some (147, false), .load true 1 (.tmp 148)⟩,
    ⟨some 150, some (147, false), .lenS (.tmp 149)⟩,
    ⟨some 151, some (147, false), .bin .gtr (.tmp 150) (.const (.int .i64 200))⟩,
    ⟨some 152, none, .pick (.tmp 147) (.const (.bool true)) (.tmp 151)⟩]) (.cond (.tmp 152) (.seq (.reg [
    ⟨some 2, none, .mov (.const (.bool false))⟩]) (.ret)) (.skip))) (.seq (.reg [
    ⟨some 2, none, .mov (.const (.bool false))⟩]) (.ret))))))))))))) (.reg [
    ⟨some 153, none, .bin .add (.tmp 12) (.const (.int .i64 1))⟩,
    ⟨some 12, none, .mov (.tmp 153)⟩]))))))) (.seq (.reg [
    ⟨some 154, none, .mov (.tmp 0)⟩,
    ⟨some 155, none, .call 135 [.tmp 154]⟩,
    ⟨some 2, none, .mov (.tmp 155)⟩]) (.ret)))
theorem t85 : Try.f85.body.bind (trC e85) = some c85 := by kernel_rfl
theorem r85 : Try.f85.results.toList.mapM (trR Try.prog) = some [.tmp 2] := by kernel_rfl
theorem fn85 {args : List Value} {M : Mem} {post : Value → Mem → Prop} (hl : args.length ≤ 156) (h : VC e85 c85 (fnQ [.tmp 2] post) (initS args 156) M) : Fn Try.prog 85 args M post :=
  Fn.of' (E := e85) Try.func85 t85 rfl r85 mixed hl h
noncomputable def e86 : Env := ⟨Try.prog, [5], 26, []⟩
noncomputable def c86 : C :=
  .seq (.reg [
    ⟨some 2, none, .mov (.const (.int .i64 0))⟩]) (.seq (.reg [
    ⟨some 3, none, .mov (.const (.int .i64 0))⟩]) (.seq (.seq (.reg [
    ⟨some 6, none, .mov (.tmp 0)⟩,
    ⟨some 7, none, .nilCheck (.tmp 6)⟩,
    ⟨some 8, none, .faddr 4 (.tmp 7)⟩,
    ⟨some 9, none, .load true 1 (.tmp 8)⟩,
    ⟨some 10, none, .lenS (.tmp 9)⟩,
    ⟨some 11, none, .mov (.const (.int .i64 0))⟩]) (.block 0 (.loop (.seq (.reg [
    ⟨some 12, none, .bin .lss (.tmp 11) (.tmp 10)⟩]) (.seq (.cond (.tmp 12) (.skip) (.exit 0)) (.seq (.block 1 (.seq (.reg [
    ⟨some 13, none, .iaddr 8 (.tmp 9) (.tmp 11)⟩,
    ⟨some 14, none, .load false 8 (.tmp 13)⟩,
    ⟨some 5, none, .alloc true [.int .i64 0, .int .i64 0, .int .i64 0, .int .i64 0, .int .i64 0, .int .i64 0, .int .i64 0, .slice none 0 0]⟩,
    ⟨none, none, .store 8 (.tmp 5) (.tmp 14)⟩]) (.seq (.reg [
    ⟨some 15, none, .faddr 0 (.tmp 5)⟩,
    ⟨some 16, none, .load true 1 (.tmp 15)⟩,
    ⟨some 17, none, .bin .eql (.tmp 16) (.const (.int .i64 1))⟩]) (.cond (.tmp 17) (.reg [
    ⟨some 18, none, .mov (.tmp 3)⟩,
    ⟨some 19, none, .faddr 7 (.tmp 5)⟩,
    ⟨some 20, none, .load true 1 (.tmp 19)⟩,
    ⟨some 21, none, .lenS (.tmp 20)⟩,
    ⟨some 22, none, .bin .add (.const (.int .i64 1)) (.tmp 21)⟩,
    ⟨some 23, none, .bin .add (.tmp 18) (.tmp 22)⟩,
    ⟨some 3, none, .mov (.tmp 23)⟩]) (.skip))))) (.reg [
    ⟨some 24, none, .bin .add (.tmp 11) (.const (.int .i64 1))⟩,
    ⟨some 11, none, .mov (.tmp 24)⟩]))))))) (.seq (.reg [
    ⟨some 25, none, .mov (.tmp 3)⟩,
    ⟨some 2, none, .mov (.tmp 25)⟩]) (.ret))))
theorem t86 : Try.f86.body.bind (trC e86) = some c86 := by kernel_rfl
theorem r86 : Try.f86.results.toList.mapM (trR Try.prog) = some [.tmp 2] := by kernel_rfl
theorem fn86 {args : List Value} {M : Mem} {post : Value → Mem → Prop} (hl : args.length ≤ 26) (h : VC e86 c86 (fnQ [.tmp 2] post) (initS args 26) M) : Fn Try.prog 86 args M post :=
  Fn.of' (E := e86) Try.func86 t86 rfl r86 mixed hl h
noncomputable def e87 : Env := ⟨Try.prog, [4, 6, 9], 99, [(17, 20)]⟩
noncomputable def c87 : C :=
  .seq (.reg [
    ⟨some 2, none, .mov (.const (.bool false))⟩]) (.seq (.seq (.reg [
    ⟨some 11, none, .mov (.tmp 0)⟩,
    ⟨some 12, none, .nilCheck (.tmp 11)⟩,
    ⟨some 13, none, .faddr 3 (.tmp 12)⟩,
    ⟨some 14, none, .load true 1 (.tmp 13)⟩,
    ⟨some 15, none, .lenS (.tmp 14)⟩,
    ⟨some 16, none, .mov (.const (.int .i64 0))⟩]) (.block 0 (.loop (.seq (.reg [
    ⟨some 17, none, .bin .lss (.tmp 16) (.tmp 15)⟩]) (.seq (.cond (.tmp 17) (.skip) (.exit 0)) (.seq (.block 1 (.seq (.reg [
    ⟨some 18, none, .iaddr 3 (.tmp 14) (.tmp 16)⟩,
    ⟨some 19, none, .load false 3 (.tmp 18)⟩,
    ⟨some 4, none, .alloc true [.int .i64 0, .int .i64 0, .int .i64 0]⟩,
    ⟨none, none, .store 3 (.tmp 4) (.tmp 19)⟩]) (.seq (.reg [
    ⟨some 20, none, .mov (.tmp 0)⟩,
    ⟨some 21, none, .load false 3 (.tmp 4)⟩,
    ⟨some 22, none, .call 136 [.tmp 20, .tmp 21, .const (.bool false)]⟩,
    ⟨some 23, none, .not (.tmp 22)⟩]) (.cond (.tmp 23) (.seq (.reg [
    ⟨some 2, none, .mov (.const (.bool false))⟩]) (.ret)) (.skip))))) (.reg [
    ⟨some 24, none, .bin .add (.tmp 16) (.const (.int .i64 1))⟩,
    ⟨some 16, none, .mov (.tmp 24)⟩]))))))) (.seq (.seq (.reg [
    ⟨some 25, none, .mov (.tmp 0)⟩,
    ⟨some 26, none, .nilCheck (.tmp 25)⟩,
    ⟨some 27, none, .faddr 4 (.tmp 26)⟩,
    ⟨some 28, none, .load true 1 (.tmp 27)⟩,
    ⟨some 29, none, .lenS (.tmp 28)⟩,
    ⟨some 30, none, .mov (.const (.int .i64 0))⟩]) (.block 2 (.loop (.seq (.reg [
    ⟨some 31, none, .bin .lss (.tmp 30) (.tmp 29)⟩]) (.seq (.cond (.tmp 31) (.skip) (.exit 2)) (.seq (.block 3 (.seq (.reg [
    ⟨some 32, none, .mov (.tmp 30)⟩,
    ⟨some 33, none, .iaddr 8 (.tmp 28) (.tmp 30)⟩,
    ⟨some 34, none, .load false 8 (.tmp 33)⟩,
    ⟨some 6, none, .alloc true [.int .i64 0, .int .i64 0, .int .i64 0, .int .i64 0, .int .i64 0, .int .i64 0, .int .i64 0, .slice none 0 0]⟩,
    ⟨some 5, none, .mov (.tmp 32)⟩,
    ⟨none, none, .store 8 (.tmp 6) (.tmp 34)⟩]) (.seq (.reg [
    ⟨some 35, none, .mov (.tmp 0)⟩,
    ⟨some 36, none, .mov (.tmp 5)⟩,
    ⟨some 37, none, .call 137 [.tmp 35, .tmp 36]⟩,
    ⟨some 7, none, .mov (.tmp 37)⟩]) (.seq (.seq (.reg [
    ⟨some 38, none, .mov (.tmp 7)⟩,
    ⟨some 39, none, .mov (.tmp 38)⟩,
    ⟨some 40, some (39, true), .faddr 3 (.tmp 6)⟩,
    ⟨some 41, some (39, true), .load true 1 (.tmp 40)⟩,
    ⟨some 42, some (39, true), .bin .eql (.tmp 41) (.const (.int .i64 1))⟩,
    ⟨some 43, some (39, true), .mov (.tmp 42)⟩,
    ⟨some 44, some (43, false), .faddr 3 (.tmp 6)⟩,
    ⟨some 45, some (43, false), .load true 1 (.tmp 44)⟩,
    ⟨some 46, some (43, false), .bin .eql (.tmp 45) (.const (.int .i64 2))⟩,
    ⟨some 47, some (39, true), .pick (.tmp 43) (.const (.bool true)) (.tmp 46)⟩,
    ⟨some 48, none, .pick (.tmp 39) (.tmp 47) (.const (.bool false))⟩]) (.cond (.tmp 48) (.seq (.reg [
    ⟨some 2, none, .mov (.const (.bool false))⟩]) (.ret)) (.skip))) (.seq (.reg [
    ⟨some 49, none, .faddr 7 (.tmp 6)⟩,
    ⟨some 50, none, .load true 1 (.tmp 49)⟩,
    ⟨some 51, none, .lenS (.tmp 50)⟩,
    ⟨some 52, none, .mov (.const (.int .i64 0))⟩]) (.block 4 (.loop (.seq (.reg [
    ⟨some 53, none, .bin .lss (.tmp 52) (.tmp 51)⟩]) (.seq (.cond (.tmp 53) (.skip) (.exit 4)) (.seq (.block 5 (.seq (.reg [
    ⟨some 54, none, .mov (.tmp 52)⟩,
    ⟨some 55, none, .iaddr 6 (.tmp 50) (.tmp 52)⟩,
    ⟨some 56, none, .load false 6 (.tmp 55)⟩,
    ⟨some 9, none, .alloc true [.int .i64 0, .int .i64 0, .int .i64 0, .int .i64 0, .int .i64 0, .int .i64 0]⟩,
    ⟨some 8, none, .mov (.tmp 54)⟩,
    ⟨none, none, .store 6 (.tmp 9) (.tmp 56)⟩]) (.seq (.seq (.reg [
    ⟨some 57, none, .mov (.tmp 7)⟩]) (.cond (.tmp 57) (.seq (.seq (.dreg 20 [
    ⟨some 58, none, .faddr 0 (.tmp 9)⟩,
    ⟨some 59, none, .load false 3 (.tmp 58)⟩,
    ⟨some 60, none, .mov (.tmp 0)⟩,
    ⟨some 61, none, .nilCheck (.tmp 60)⟩,
    ⟨some 62, none, .faddr 4 (.tmp 61)⟩,
    ⟨some 63, none, .load true 1 (.tmp 62)⟩,
    ⟨some 64, none, .lenS (.tmp 63)⟩,
    ⟨some 65, none, .qcall 103 [.tmp 59, .tmp 64]⟩,
    ⟨some 66, none, .not (.tmp 65)⟩,
    ⟨some 67, none, .mov (.tmp 66)⟩,
    ⟨some 68, some (67, false), .faddr 3 (.tmp 9)⟩,
    ⟨some 69, some (67, false), .load false 3 (.tmp 68)⟩,
    ⟨some 70, some (67, false), .mov (.tmp 0)⟩,
    ⟨some 71, some (67, false), .nilCheck (.tmp 70)⟩,
    ⟨some 72, some (67, false), .faddr 4 (.tmp 71)⟩,
    ⟨some 73, some (67, false), .load true 1 (.tmp 72)⟩,
    ⟨some 74, some (67, false), .lenS (.tmp 73)⟩,
    ⟨some 75, some (67, false), .qcall 103 [.tmp 69, .tmp 74]⟩,
    ⟨some 76, some (67, false), .not (.tmp 75)⟩,
    ⟨some 77, none, .pick (.tmp 67) (.const (.bool true)) (.tmp 76)⟩]) (.cond (.tmp 77) (.seq (.reg [
    ⟨some 2, none, .mov (.const (.bool false))⟩]) (.ret)) (.skip))) (.exit 5)) (.skip))) (.seq (.reg [
    ⟨some 78, none, .mov (.tmp 0)⟩,
    ⟨some 79, none, .mov (.tmp 5)⟩,
    ⟨some 80, none, .mov (.tmp 8)⟩,
    ⟨some 81, none, .call 138 [.tmp 78, .tmp 79, .tmp 80]⟩,
    ⟨some 82, none, .not (.tmp 81)⟩,
    ⟨some 10, none, .mov (.tmp 82)⟩]) (.seq (.reg [
    ⟨some 83, none, .mov (.tmp 0)⟩,
    ⟨some 84, none, .faddr 0 (.tmp 9)⟩,
    ⟨some 85, none, .load false 3 (.tmp 84)⟩,
    ⟨some 86, none, .mov (.tmp 10)⟩,
    ⟨some 87, none, .call 136 [.tmp 83, .tmp 85, .tmp 86]⟩,
    ⟨some 88, none, .not (.tmp 87)⟩,
    ⟨some 89, none, .mov (.tmp 88)⟩,
    ⟨some 90, some (89, false), .mov (.tmp 0)⟩,
    ⟨some 91, some (89, false), .faddr 3 (.tmp 9)⟩,
    ⟨some 92, some (89, false), .load false 3 (.tmp 91)⟩,
    ⟨some 93, some (89, false), .mov (.tmp 10)⟩,
    ⟨some 94, some (89, false), .call 136 [.tmp 90, .tmp 92, .tmp 93]⟩,
    ⟨some 95, some (89, false), .not (.tmp 94)⟩,
    ⟨some 96, none, .pick (.tmp 89) (.const (.bool true)) (.tmp 95)⟩]) (.cond (.tmp 96) (.seq (.reg [
    ⟨some 2, none, .mov (.const (.bool false))⟩]) (.ret)) (.skip))))))) (.reg [
    ⟨some 97, none, .bin .add (.tmp 52) (.const (.int .i64 1))⟩,
    ⟨some 52, none, .mov (.tmp 97)⟩]))))))))))) (.reg [
    ⟨some 98, none, .bin .add (.tmp 30) (.const (.int .i64 1))⟩,
    ⟨some 30, none, .mov (.tmp 98)⟩]))))))) (.seq (.reg [
    ⟨some 2, none, .mov (.const (.bool true))⟩]) (.ret))))
theorem t87 : Try.f87.body.bind (trC e87) = some c87 := by kernel_rfl
theorem r87 : Try.f87.results.toList.mapM (trR Try.prog) = some [.tmp 2] := by kernel_rfl
theorem fn87 {args : List Value} {M : Mem} {post : Value → Mem → Prop} (hl : args.length ≤ 99) (h : VC e87 c87 (fnQ [.tmp 2] post) (initS args 99) M) : Fn Try.prog 87 args M post :=
  Fn.of' (E := e87) Try.func87 t87 rfl r87 mixed hl h
noncomputable def e88 : Env := ⟨Try.prog, [5], 118, []⟩
noncomputable def c88 : C :=
  .seq (.reg [
    ⟨some 2, none, .mov (.const (.bool false))⟩]) (.seq (.reg [
    ⟨some 11, none, .mov (.tmp 0)⟩,
    ⟨some 12, none, .nilCheck (.tmp 11)⟩,
    ⟨some 13, none, .faddr 5 (.tmp 12)⟩,
    ⟨some 14, none, .load true 1 (.tmp 13)⟩,
    ⟨some 15, none, .bin .eql (.tmp 14) (.const (.int .i64 1))⟩,
    ⟨some 16, none, .mov (.tmp 15)⟩,
    ⟨some 17, some (16, false), .mov (.tmp 0)⟩,
    ⟨some 18, some (16, false), .nilCheck (.tmp 17)⟩,
    ⟨some 19, some (16, false), .faddr 5 (.tmp 18)⟩,
    ⟨some 20, some (16, false), .load true 1 (.tmp 19)⟩,
    ⟨some 21, some (16, false), .bin .eql (.tmp 20) (.const (.int .i64 2))⟩,
    ⟨some 22, none, .pick (.tmp 16) (.const (.bool true)) (.tmp 21)⟩,
    ⟨some 3, none, .mov (.tmp 22)⟩]) (.seq (.seq (.reg [
    ⟨some 23, none, .mov (.tmp 3)⟩,
    ⟨some 24, none, .not (.tmp 23)⟩,
    ⟨some 25, none, .mov (.tmp 24)⟩,
    ⟨some 26, some (25, true), .mov (.tmp 0)⟩,
    ⟨some 27, some (25, true), .nilCheck (.tmp 26)⟩,
    ⟨some 28, some (25, true), .faddr 8 (.tmp 27)⟩,
    ⟨some 29, some (25, true), .load true 1 (.tmp 28)⟩,
    ⟨some 30, some (25, true), .lenS (.tmp 29)⟩,
    ⟨some 31, some (25, true), .bin .gtr (.tmp 30) (.const (.int .i64 0))⟩,
    ⟨some 32, none, .pick (.tmp 25) (.tmp 31) (.const (.bool false))⟩]) (.cond (.tmp 32) (.seq (.reg [
    ⟨some 2, none, .mov (.const (.bool false))⟩]) (.ret)) (.skip))) (.seq (.seq (.reg [
    ⟨some 33, none, .mov (.tmp 0)⟩,
    ⟨some 34, none, .nilCheck (.tmp 33)⟩,
    ⟨some 35, none, .faddr 4 (.tmp 34)⟩,
    ⟨some 36, none, .load true 1 (.tmp 35)⟩,
    ⟨some 37, none, .lenS (.tmp 36)⟩,
    ⟨some 38, none, .mov (.const (.int .i64 0))⟩]) (.block 0 (.loop (.seq (.reg [
    ⟨some 39, none, .bin .lss (.tmp 38) (.tmp 37)⟩]) (.seq (.cond (.tmp 39) (.skip) (.exit 0)) (.seq (.block 1 (.seq (.reg [
    ⟨some 40, none, .mov (.tmp 38)⟩,
    ⟨some 41, none, .iaddr 8 (.tmp 36) (.tmp 38)⟩,
    ⟨some 42, none, .load false 8 (.tmp 41)⟩,
    ⟨some 5, none, .alloc true [.int .i64 0, .int .i64 0, .int .i64 0, .int .i64 0, .int .i64 0, .int .i64 0, .int .i64 0, .slice none 0 0]⟩,
    ⟨some 4, none, .mov (.tmp 40)⟩,
    ⟨none, none, .store 8 (.tmp 5) (.tmp 42)⟩]) (.seq (.reg [
    ⟨some 6, none, .mov (.const (.int .i64 0))⟩]) (.seq (.seq (.reg [
    ⟨some 43, none, .mov (.tmp 0)⟩,
    ⟨some 44, none, .nilCheck (.tmp 43)⟩,
    ⟨some 45, none, .faddr 8 (.tmp 44)⟩,
    ⟨some 46, none, .load true 1 (.tmp 45)⟩,
    ⟨some 47, none, .lenS (.tmp 46)⟩,
    ⟨some 48, none, .mov (.const (.int .i64 0))⟩]) (.block 2 (.loop (.seq (.reg [
    ⟨some 49, none, .bin .lss (.tmp 48) (.tmp 47)⟩]) (.seq (.cond (.tmp 49) (.skip) (.exit 2)) (.seq (.block 3 (.seq (.reg [
    ⟨some 50, none, .iaddr 1 (.tmp 46) (.tmp 48)⟩,
    ⟨some 51, none, .load true 1 (.tmp 50)⟩,
    ⟨some 8, none, .mov (.tmp 51)⟩]) (.seq (.reg [
    ⟨some 52, none, .mov (.tmp 8)⟩,
    ⟨some 53, none, .mov (.tmp 4)⟩,
    ⟨some 54, none, .bin .eql (.tmp 52) (.tmp 53)⟩]) (.cond (.tmp 54) (.reg [
    ⟨some 55, none, .mov (.tmp 6)⟩,
    ⟨some 56, none, .bin .add (.tmp 55) (.const (.int .i64 1))⟩,
    ⟨some 6, none, .mov (.tmp 56)⟩]) (.skip))))) (.reg [
    ⟨some 57, none, .bin .add (.tmp 48) (.const (.int .i64 1))⟩,
    ⟨some 48, none, .mov (.tmp 57)⟩]))))))) (.seq (.seq (.reg [
    ⟨some 58, none, .faddr 5 (.tmp 5)⟩,
    ⟨some 59, none, .load true 1 (.tmp 58)⟩,
    ⟨some 60, none, .bin .eql (.tmp 59) (.const (.int .i64 1))⟩,
    ⟨some 61, none, .mov (.tmp 60)⟩,
    ⟨some 62, some (61, true), .mov (.tmp 6)⟩,
    ⟨some 63, some (61, true), .bin .neq (.tmp 62) (.const (.int .i64 1))⟩,
    ⟨some 64, none, .pick (.tmp 61) (.tmp 63) (.const (.bool false))⟩,
    ⟨some 65, none, .mov (.tmp 64)⟩,
    ⟨some 66, some (65, false), .faddr 5 (.tmp 5)⟩,
    ⟨some 67, some (65, false), .load true 1 (.tmp 66)⟩,
    ⟨some 68, some (65, false), .bin .neq (.tmp 67) (.const (.int .i64 1))⟩,
    ⟨some 69, some (65, false), .mov (.tmp 68)⟩,
    ⟨some 70, some (69, true), .mov (.tmp 6)⟩,
    ⟨some 71, some (69, true), .bin .gtr (.tmp 70) (.const (.int .i64 0))⟩,
    ⟨some 72, some (65, false), .pick (.tmp 69) (.tmp 71) (.const (.bool false))⟩,
    ⟨some 73, none, .pick (.tmp 65) (.const (.bool true)) (.tmp 72)⟩]) (.cond (.tmp 73) (.seq (.reg [
    ⟨some 2, none, .mov (.const (.bool false))⟩]) (.ret)) (.skip))) (.seq (.reg [
    ⟨some 74, none, .faddr 5 (.tmp 5)⟩,
    ⟨some 75, none, .load true 1 (.tmp 74)⟩,
    ⟨some 76, none, .bin .eql (.tmp 75) (.const (.int .i64 2))⟩,
    ⟨some 77, none, .mov (.tmp 76)⟩,
    ⟨some 78, some (77, true), .mov (.tmp 3)⟩,
    ⟨some 79, some (77, true), .not (.tmp 78)⟩,
    ⟨some 80, none, .pick (.tmp 77) (.tmp 79) (.const (.bool false))⟩,
    ⟨some 81, none, .mov (.tmp 80)⟩,
    ⟨some 82, some (81, true), .mov (.tmp 0)⟩,
    ⟨some 83, some (81, true), .nilCheck (.tmp 82)⟩,
    ⟨some 84, some (81, true), .faddr 5 (.tmp 83)⟩,
    ⟨some 85, some (81, true), .load true 1 (.tmp 84)⟩,
    ⟨some 86, some (81, true), .bin .neq (.tmp 85) (.const (.int .i64 3))⟩,
    ⟨some 87, some (81, true), .mov (.tmp 86)⟩,
    ⟨some 88, some (87, false), .mov (.tmp 4)⟩,
    ⟨some 89, some (87, false), .mov (.tmp 0)⟩,
    ⟨some 90, some (87, false), .nilCheck (.tmp 89)⟩,
    ⟨some 91, some (87, false), .faddr 6 (.tmp 90)⟩,
    ⟨some 92, some (87, false), .load true 1 (.tmp 91)⟩,
    ⟨some 93, some (87, false), .bin .lss (.tmp 88) (.tmp 92)⟩,
    ⟨some 94, some (81, true), .pick (.tmp 87) (.const (.bool true)) (.tmp 93)⟩,
    ⟨some 95, none, .pick (.tmp 81) (.tmp 94) (.const (.bool false))⟩]) (.cond (.tmp 95) (.seq (.reg [
    ⟨some 2, none, .mov (.const (.bool false))⟩]) (.ret)) (.skip)))))))) (.reg [
    ⟨some 96, none, .bin .add (.tmp 38) (.const (.int .i64 1))⟩,
    ⟨some 38, none, .mov (.tmp 96)⟩]))))))) (.seq (.seq (.reg [
    ⟨some 97, none, .mov (.tmp 0)⟩,
    ⟨some 98, none, .nilCheck (.tmp 97)⟩,
    ⟨some 99, none, .faddr 8 (.tmp 98)⟩,
    ⟨some 100, none, .load true 1 (.tmp 99)⟩,
    ⟨some 101, none, .lenS (.tmp 100)⟩,
    ⟨some 102, none, .mov (.const (.int .i64 0))⟩]) (.block 4 (.loop (.seq (.reg [
    ⟨some 103, none, .bin .lss (.tmp 102) (.tmp 101)⟩]) (.seq (.cond (.tmp 103) (.skip) (.exit 4)) (.seq (.block 5 (.seq (.reg [
    ⟨some 104, none, .iaddr 1 (.tmp 100) (.tmp 102)⟩,
    ⟨some 105, none, .load true 1 (.tmp 104)⟩,
    ⟨some 10, none, .mov (.tmp 105)⟩]) (.seq (.reg [
    ⟨some 106, none, .mov (.tmp 10)⟩,
    ⟨some 107, none, .bin .lss (.tmp 106) (.const (.int .i64 0))⟩,
    ⟨some 108, none, .mov (.tmp 107)⟩,
    ⟨some 109, some (108, false), .mov (.tmp 10)⟩,
    ⟨some 110, some (108, false), .mov (.tmp 0)⟩,
    ⟨some 111, some (108, false), .nilCheck (.tmp 110)⟩,
    ⟨some 112, some (108, false), .faddr 4 (.tmp 111)⟩,
    ⟨some 113, some (108, false), .load true 1 (.tmp 112)⟩,
    ⟨some 114, some (108, false), .lenS (.tmp 113)⟩,
    ⟨some 115, some (108, false), .bin .geq (.tmp 109) (.tmp 114)⟩,
    ⟨some 116, none, .pick (.tmp 108) (.const (.bool true)) (.tmp 115)⟩]) (.cond (.tmp 116) (.seq (.reg [
    ⟨some 2, none, .mov (.const (.bool false))⟩]) (.ret)) (.skip))))) (.reg [
    ⟨some 117, none, .bin .add (.tmp 102) (.const (.int .i64 1))⟩,
    ⟨some 102, none, .mov (.tmp 117)⟩]))))))) (.seq (.reg [
    ⟨some 2, none, .mov (.const (.bool true))⟩]) (.ret))))))
theorem t88 : Try.f88.body.bind (trC e88) = some c88 := by kernel_rfl
theorem r88 : Try.f88.results.toList.mapM (trR Try.prog) = some [.tmp 2] := by kernel_rfl
theorem fn88 {args : List Value} {M : Mem} {post : Value → Mem → Prop} (hl : args.length ≤ 118) (h : VC e88 c88 (fnQ [.tmp 2] post) (initS args 118) M) : Fn Try.prog 88 args M post :=
  Fn.of' (E := e88) Try.func88 t88 rfl r88 mixed hl h
noncomputable def e89 : Env := ⟨Try.prog, [], 107, [(10, 19), (12, 19), (14, 17)]⟩
noncomputable def c89 : C :=
  .seq (.reg [
    ⟨some 2, none, .mov (.const (.bool false))⟩]) (.seq (.seq (.reg [
    ⟨some 3, none, .mov (.tmp 0)⟩,
    ⟨some 4, none, .nilCheck (.tmp 3)⟩,
    ⟨some 5, none, .faddr 5 (.tmp 4)⟩,
    ⟨some 6, none, .load true 1 (.tmp 5)⟩]) (.block 0 (.seq (.seq (.reg [
    ⟨some 8, none, .bin .eql (.tmp 6) (.const (.int .i64 0))⟩,
    ⟨some 7, none, .mov (.tmp 8)⟩]) (.cond (.tmp 7) (.skip) (.reg [
    ⟨some 9, none, .bin .eql (.tmp 6) (.const (.int .i64 4))⟩,
    ⟨some 7, none, .mov (.tmp 9)⟩]))) (.cond (.tmp 7) (.seq (.reg [
    ⟨some 10, none, .mov (.tmp 0)⟩,
    ⟨some 11, none, .nilCheck (.tmp 10)⟩,
    ⟨some 12, none, .faddr 6 (.tmp 11)⟩,
    ⟨some 13, none, .load true 1 (.tmp 12)⟩,
    ⟨some 14, none, .bin .eql (.tmp 13) (.const (.int .i64 0))⟩,
    ⟨some 15, none, .mov (.tmp 14)⟩,
    ⟨some 16, some (15, true), .mov (.tmp 0)⟩,
    ⟨some 17, some (15, true), .nilCheck (.tmp 16)⟩,
    ⟨some 18, some (15, true), .faddr 7 (.tmp 17)⟩,
    ⟨some 19, some (15, true), .load true 1 (.tmp 18)⟩,
    ⟨some 20, some (15, true), .bin .eql (.tmp 19) (.const (.int .i64 0))⟩,
    ⟨some 21, none, .pick (.tmp 15) (.tmp 20) (.const (.bool false))⟩,
    ⟨some 2, none, .mov (.tmp 21)⟩]) (.ret)) (.seq (.reg [
    ⟨some 23, none, .bin .eql (.tmp 6) (.const (.int .i64 2))⟩,
    ⟨some 22, none, .mov (.tmp 23)⟩]) (.cond (.tmp 22) (.seq (.seq (.reg [
    ⟨some 24, none, .mov (.tmp 0)⟩,
    ⟨some 25, none, .nilCheck (.tmp 24)⟩,
    ⟨some 26, none, .faddr 6 (.tmp 25)⟩,
    ⟨some 27, none, .load true 1 (.tmp 26)⟩,
    ⟨some 28, none, .bin .neq (.tmp 27) (.const (.int .i64 0))⟩]) (.cond (.tmp 28) (.seq (.reg [
    ⟨some 2, none, .mov (.const (.bool false))⟩]) (.ret)) (.skip))) (.seq (.seq (.reg [
    ⟨some 29, none, .mov (.tmp 0)⟩,
    ⟨some 30, none, .nilCheck (.tmp 29)⟩,
    ⟨some 31, none, .faddr 8 (.tmp 30)⟩,
    ⟨some 32, none, .load true 1 (.tmp 31)⟩,
    ⟨some 33, none, .lenS (.tmp 32)⟩,
    ⟨some 34, none, .bin .eql (.tmp 33) (.const (.int .i64 0))⟩]) (.cond (.tmp 34) (.seq (.reg [
    ⟨some 35, none, .mov (.tmp 0)⟩,
    ⟨some 36, none, .nilCheck (.tmp 35)⟩,
    ⟨some 37, none, .faddr 7 (.tmp 36)⟩,
    ⟨some 38, none, .load true 1 (.tmp 37)⟩,
    ⟨some 39, none, .bin .eql (.tmp 38) (.const (.int .i64 0))⟩,
    ⟨some 2, none, .mov (.tmp 39)⟩]) (.ret)) (.skip))) (.seq (.dreg 19 [
    ⟨some 40, none, .mov (.tmp 0)⟩,
    ⟨some 41, none, .nilCheck (.tmp 40)⟩,
    ⟨some 42, none, .faddr 7 (.tmp 41)⟩,
    ⟨some 43, none, .load true 1 (.tmp 42)⟩,
    ⟨some 44, none, .mov (.tmp 0)⟩,
    ⟨some 45, none, .nilCheck (.tmp 44)⟩,
    ⟨some 46, none, .faddr 4 (.tmp 45)⟩,
    ⟨some 47, none, .load true 1 (.tmp 46)⟩,
    ⟨some 48, none, .mov (.tmp 0)⟩,
    ⟨some 49, none, .nilCheck (.tmp 48)⟩,
    ⟨some 50, none, .faddr 8 (.tmp 49)⟩,
    ⟨some 51, none, .load true 1 (.tmp 50)⟩,
    ⟨some 52, none, .iaddr 1 (.tmp 51) (.const (.int .i64 0))⟩,
    ⟨some 53, none, .load true 1 (.tmp 52)⟩,
    ⟨some 54, none, .iaddr 8 (.tmp 47) (.tmp 53)⟩,
    ⟨some 55, none, .faddr 7 (.tmp 54)⟩,
    ⟨some 56, none, .load true 1 (.tmp 55)⟩,
    ⟨some 57, none, .lenS (.tmp 56)⟩,
    ⟨some 58, none, .bin .leq (.tmp 43) (.tmp 57)⟩,
    ⟨some 2, none, .mov (.tmp 58)⟩]) (.ret)))) (.seq (.reg [
    ⟨some 60, none, .bin .eql (.tmp 6) (.const (.int .i64 5))⟩,
    ⟨some 59, none, .mov (.tmp 60)⟩]) (.cond (.tmp 59) (.seq (.seq (.dreg 19 [
    ⟨some 61, none, .mov (.tmp 0)⟩,
    ⟨some 62, none, .nilCheck (.tmp 61)⟩,
    ⟨some 63, none, .faddr 6 (.tmp 62)⟩,
    ⟨some 64, none, .load true 1 (.tmp 63)⟩,
    ⟨some 65, none, .mov (.tmp 0)⟩,
    ⟨some 66, none, .nilCheck (.tmp 65)⟩,
    ⟨some 67, none, .faddr 4 (.tmp 66)⟩,
    ⟨some 68, none, .load true 1 (.tmp 67)⟩,
    ⟨some 69, none, .lenS (.tmp 68)⟩,
    ⟨some 70, none, .bin .eql (.tmp 64) (.tmp 69)⟩,
    ⟨some 71, none, .mov (.tmp 70)⟩,
    ⟨some 72, some (71, false), .mov (.tmp 0)⟩,
    ⟨some 73, some (71, false), .mov (.tmp 0)⟩,
    ⟨some 74, some (71, false), .nilCheck (.tmp 73)⟩,
    ⟨some 75, some (71, false), .faddr 6 (.tmp 74)⟩,
    ⟨some 76, some (71, false), .load true 1 (.tmp 75)⟩,
    ⟨some 77, some (71, false), .qcall 134 [.tmp 72, .tmp 76]⟩,
    ⟨some 78, some (71, false), .not (.tmp 77)⟩,
    ⟨some 79, none, .pick (.tmp 71) (.const (.bool true)) (.tmp 78)⟩]) (.cond (.tmp 79) (.seq (.reg [
    ⟨some 80, none, .mov (.tmp 0)⟩,
    ⟨some 81, none, .nilCheck (.tmp 80)⟩,
    ⟨some 82, none, .faddr 7 (.tmp 81)⟩,
    ⟨some 83, none, .load true 1 (.tmp 82)⟩,
    ⟨some 84, none, .bin .eql (.tmp 83) (.const (.int .i64 0))⟩,
    ⟨some 2, none, .mov (.tmp 84)⟩]) (.ret)) (.skip))) (.seq (.dreg 17 [
    ⟨some 85, none, .mov (.tmp 0)⟩,
    ⟨some 86, none, .nilCheck (.tmp 85)⟩,
    ⟨some 87, none, .faddr 7 (.tmp 86)⟩,
    ⟨some 88, none, .load true 1 (.tmp 87)⟩,
    ⟨some 89, none, .mov (.tmp 0)⟩,
    ⟨some 90, none, .nilCheck (.tmp 89)⟩,
    ⟨some 91, none, .faddr 4 (.tmp 90)⟩,
    ⟨some 92, none, .load true 1 (.tmp 91)⟩,
    ⟨some 93, none, .mov (.tmp 0)⟩,
    ⟨some 94, none, .nilCheck (.tmp 93)⟩,
    ⟨some 95, none, .faddr 6 (.tmp 94)⟩,
    ⟨some 96, none, .load true 1 (.tmp 95)⟩,
    ⟨some 97, none, .iaddr 8 (.tmp 92) (.tmp 96)⟩,
    ⟨some 98, none, .faddr 7 (.tmp 97)⟩,
    ⟨some 99, none, .load true 1 (.tmp 98)⟩,
    ⟨some 100, none, .lenS (.tmp 99)⟩,
    ⟨some 101, none, .bin .leq (.tmp 88) (.tmp 100)⟩,
    ⟨some 2, none, .mov (.tmp 101)⟩]) (.ret))) (.skip))))))))) (.seq (.reg [
    ⟨some 102, none, .mov (.tmp 0)⟩,
    ⟨some 103, none, .nilCheck (.tmp 102)⟩,
    ⟨some 104, none, .faddr 7 (.tmp 103)⟩,
    ⟨some 105, none, .load true 1 (.tmp 104)⟩,
    ⟨some 106, none, .bin .eql (.tmp 105) (.const (.int .i64 0))⟩,
    ⟨some 2, none, .mov (.tmp 106)⟩]) (.ret)))
theorem t89 : Try.f89.body.bind (trC e89) = some c89 := by kernel_rfl
theorem r89 : Try.f89.results.toList.mapM (trR Try.prog) = some [.tmp 2] := by kernel_rfl
theorem fn89 {args : List Value} {M : Mem} {post : Value → Mem → Prop} (hl : args.length ≤ 107) (h : VC e89 c89 (fnQ [.tmp 2] post) (initS args 107) M) : Fn Try.prog 89 args M post :=
  Fn.of' (E := e89) Try.func89 t89 rfl r89 mixed hl h
noncomputable def e90 : Env := ⟨Try.prog, [4], 116, []⟩
noncomputable def c90 : C :=
  .seq (.reg [
    ⟨some 2, none, .mov (.const (.bool false))⟩]) (.seq (.seq (.reg [
    ⟨some 8, none, .mov (.tmp 0)⟩,
    ⟨some 9, none, .nilCheck (.tmp 8)⟩,
    ⟨some 10, none, .faddr 5 (.tmp 9)⟩,
    ⟨some 11, none, .load true 1 (.tmp 10)⟩,
    ⟨some 12, none, .bin .neq (.tmp 11) (.const (.int .i64 1))⟩,
    ⟨some 13, none, .mov (.tmp 12)⟩,
    ⟨some 14, some (13, true), .mov (.tmp 0)⟩,
    ⟨some 15, some (13, true), .nilCheck (.tmp 14)⟩,
    ⟨some 16, some (13, true), .faddr 5 (.tmp 15)⟩,
    ⟨some 17, some (13, true), .load true 1 (.tmp 16)⟩,
    ⟨some 18, some (13, true), .bin .neq (.tmp 17) (.const (.int .i64 2))⟩,
    ⟨some 19, none, .pick (.tmp 13) (.tmp 18) (.const (.bool false))⟩]) (.cond (.tmp 19) (.seq (.reg [
    ⟨some 2, none, .mov (.const (.bool true))⟩]) (.ret)) (.skip))) (.seq (.seq (.reg [
    ⟨some 20, none, .mov (.tmp 0)⟩,
    ⟨some 21, none, .nilCheck (.tmp 20)⟩,
    ⟨some 22, none, .faddr 4 (.tmp 21)⟩,
    ⟨some 23, none, .load true 1 (.tmp 22)⟩,
    ⟨some 24, none, .lenS (.tmp 23)⟩,
    ⟨some 25, none, .mov (.const (.int .i64 0))⟩]) (.block 0 (.loop (.seq (.reg [
    ⟨some 26, none, .bin .lss (.tmp 25) (.tmp 24)⟩]) (.seq (.cond (.tmp 26) (.skip) (.exit 0)) (.seq (.block 1 (.seq (.reg [
    ⟨some 27, none, .mov (.tmp 25)⟩,
    ⟨some 28, none, .iaddr 8 (.tmp 23) (.tmp 25)⟩,
    ⟨some 29, none, .load false 8 (.tmp 28)⟩,
    ⟨some 4, none, .alloc true [.int .i64 0, .int .i64 0, .int .i64 0, .int .i64 0, .int .i64 0, .int .i64 0, .int .i64 0, .slice none 0 0]⟩,
    ⟨some 3, none, .mov (.tmp 27)⟩,
    ⟨none, none, .store 8 (.tmp 4) (.tmp 29)⟩]) (.seq (.reg [
    ⟨some 30, none, .faddr 3 (.tmp 4)⟩,
    ⟨some 31, none, .load true 1 (.tmp 30)⟩,
    ⟨some 32, none, .bin .eql (.tmp 31) (.const (.int .i64 1))⟩,
    ⟨some 33, none, .mov (.tmp 32)⟩,
    ⟨some 34, some (33, false), .faddr 3 (.tmp 4)⟩,
    ⟨some 35, some (33, false), .load true 1 (.tmp 34)⟩,
    ⟨some 36, some (33, false), .bin .eql (.tmp 35) (.const (.int .i64 2))⟩,
    ⟨some 37, none, .pick (.tmp 33) (.const (.bool true)) (.tmp 36)⟩,
    ⟨some 5, none, .mov (.tmp 37)⟩]) (.seq (.seq (.reg [
    ⟨some 38, none, .mov (.tmp 5)⟩,
    ⟨some 39, none, .mov (.tmp 38)⟩,
    ⟨some 40, some (39, true), .faddr 5 (.tmp 4)⟩,
    ⟨some 41, some (39, true), .load true 1 (.tmp 40)⟩,
    ⟨some 42, some (39, true), .bin .eql (.tmp 41) (.const (.int .i64 0))⟩,
    ⟨some 43, none, .pick (.tmp 39) (.tmp 42) (.const (.bool false))⟩,
    ⟨some 44, none, .mov (.tmp 43)⟩,
    ⟨some 45, some (44, true), .mov (.tmp 0)⟩,
    ⟨some 46, some (44, true), .nilCheck (.tmp 45)⟩,
    ⟨some 47, some (44, true), .faddr 5 (.tmp 46)⟩,
    ⟨some 48, some (44, true), .load true 1 (.tmp 47)⟩,
    ⟨some 49, some (44, true), .bin .eql (.tmp 48) (.const (.int .i64 2))⟩,
    ⟨some 50, some (44, true), .mov (.tmp 49)⟩,
    ⟨some 51, some (50, false), .mov (.tmp 3)⟩,
    ⟨some 52, some (50, false), .mov (.tmp 0)⟩,
    ⟨some 53, some (50, false), .nilCheck (.tmp 52)⟩,
    ⟨some 54, some (50, false), .faddr 6 (.tmp 53)⟩,
    ⟨some 55, some (50, false), .load true 1 (.tmp 54)⟩,
    ⟨some 56, some (50, false), .bin .lss (.tmp 51) (.tmp 55)⟩,
    ⟨some 57, some (44, true), .pick (.tmp 50) (.const (.bool true)) (.tmp 56)⟩,
    ⟨some 58, none, .pick (.tmp 44) (.tmp 57) (.const (.bool false))⟩]) (.cond (.tmp 58) (.seq (.reg [
    ⟨some 2, none, .mov (.const (.bool false))⟩]) (.ret)) (.skip))) (.seq (.reg [
    ⟨some 6, none, .mov (.const (.int .i64 0))⟩]) (.seq (.seq (.reg [
    ⟨some 59, none, .faddr 5 (.tmp 4)⟩,
    ⟨some 60, none, .load true 1 (.tmp 59)⟩,
    ⟨some 61, none, .bin .eql (.tmp 60) (.const (.int .i64 2))⟩]) (.cond (.tmp 61) (.reg [
    ⟨some 62, none, .faddr 7 (.tmp 4)⟩,
    ⟨some 63, none, .load true 1 (.tmp 62)⟩,
    ⟨some 64, none, .lenS (.tmp 63)⟩,
    ⟨some 6, none, .mov (.tmp 64)⟩]) (.seq (.reg [
    ⟨some 65, none, .mov (.tmp 0)⟩,
    ⟨some 66, none, .nilCheck (.tmp 65)⟩,
    ⟨some 67, none, .faddr 5 (.tmp 66)⟩,
    ⟨some 68, none, .load true 1 (.tmp 67)⟩,
    ⟨some 69, none, .bin .eql (.tmp 68) (.const (.int .i64 2))⟩,
    ⟨some 70, none, .mov (.tmp 69)⟩,
    ⟨some 71, some (70, true), .mov (.tmp 0)⟩,
    ⟨some 72, some (70, true), .nilCheck (.tmp 71)⟩,
    ⟨some 73, some (70, true), .faddr 8 (.tmp 72)⟩,
    ⟨some 74, some (70, true), .load true 1 (.tmp 73)⟩,
    ⟨some 75, some (70, true), .lenS (.tmp 74)⟩,
    ⟨some 76, some (70, true), .bin .gtr (.tmp 75) (.const (.int .i64 0))⟩,
    ⟨some 77, none, .pick (.tmp 70) (.tmp 76) (.const (.bool false))⟩,
    ⟨some 78, none, .mov (.tmp 77)⟩,
    ⟨some 79, some (78, true), .mov (.tmp 0)⟩,
    ⟨some 80, some (78, true), .nilCheck (.tmp 79)⟩,
    ⟨some 81, some (78, true), .faddr 8 (.tmp 80)⟩,
    ⟨some 82, some (78, true), .load true 1 (.tmp 81)⟩,
    ⟨some 83, some (78, true), .iaddr 1 (.tmp 82) (.const (.int .i64 0))⟩,
    ⟨some 84, some (78, true), .load true 1 (.tmp 83)⟩,
    ⟨some 85, some (78, true), .mov (.tmp 3)⟩,
    ⟨some 86, some (78, true), .bin .eql (.tmp 84) (.tmp 85)⟩,
    ⟨some 87, none, .pick (.tmp 78) (.tmp 86) (.const (.bool false))⟩]) (.cond (.tmp 87) (.reg [
    ⟨some 88, none, .mov (.tmp 0)⟩,
    ⟨some 89, none, .nilCheck (.tmp 88)⟩,
    ⟨some 90, none, .faddr 7 (.tmp 89)⟩,
    ⟨some 91, none, .load true 1 (.tmp 90)⟩,
    ⟨some 6, none, .mov (.tmp 91)⟩]) (.skip))))) (.seq (.reg [
    ⟨some 7, none, .mov (.const (.int .i64 0))⟩]) (.block 2 (.loop (.seq (.seq (.reg [
    ⟨some 92, none, .mov (.tmp 7)⟩,
    ⟨some 93, none, .mov (.tmp 6)⟩,
    ⟨some 94, none, .bin .lss (.tmp 92) (.tmp 93)⟩]) (.cond (.tmp 94) (.skip) (.exit 2))) (.seq (.block 3 (.seq (.reg [
    ⟨some 97, none, .mov (.tmp 0)⟩,
    ⟨some 98, none, .faddr 7 (.tmp 4)⟩,
    ⟨some 99, none, .load true 1 (.tmp 98)⟩,
    ⟨some 100, none, .mov (.tmp 7)⟩,
    ⟨some 101, none, .iaddr 6 (.tmp 99) (.tmp 100)⟩,
    ⟨some 102, none, .faddr 0 (.tmp 101)⟩,
    ⟨some 103, none, .load false 3 (.tmp 102)⟩,
    ⟨some 104, none, .call 139 [.tmp 97, .tmp 103]⟩,
    ⟨some 105, none, .mov (.tmp 104)⟩,
    ⟨some 106, some (105, false), .mov (.tmp 0)⟩,
    ⟨some 107, some (105, false), .faddr 7 (.tmp 4)⟩,
    ⟨some 108, some (105, false), .load true 1 (.tmp 107)⟩,
    ⟨some 109, some (105, false), .mov (.tmp 7)⟩,
    ⟨some 110, some (105, false), .iaddr 6 (.tmp 108) (.tmp 109)⟩,
    ⟨some 111, some (105, false), .faddr 3 (.tmp 110)⟩,
    ⟨some 112, some (105, false), .load false 3 (.tmp 111)⟩,
    ⟨some 113, some (105, false), .call 139 [.tmp 106, .tmp 112]⟩,
    ⟨some 114, none, .pick (.tmp 105) (.const (.bool true)) (.tmp 113)⟩]) (.cond (.tmp 114) (.seq (.reg [
    ⟨some 2, none, .mov (.const (.bool false))⟩]) (.ret)) (.skip)))) (.reg [
    ⟨some 95, none, .mov (.tmp 7)⟩,
    ⟨some 96, none, .bin .add (.tmp 95) (.const (.int .i64 1))⟩,
    ⟨some 7, none, .mov (.tmp 96)⟩])))))))))))) (.reg [
    ⟨some 115, none, .bin .add (.tmp 25) (.const (.int .i64 1))⟩,
    ⟨some 25, none, .mov (.tmp 115)⟩]))))))) (.seq (.reg [
    ⟨some 2, none, .mov (.const (.bool true))⟩]) (.ret))))
theorem t90 : Try.f90.body.bind (trC e90) = some c90 := by kernel_rfl
theorem r90 : Try.f90.results.toList.mapM (trR Try.prog) = some [.tmp 2] := by kernel_rfl
theorem fn90 {args : List Value} {M : Mem} {post : Value → Mem → Prop} (hl : args.length ≤ 116) (h : VC e90 c90 (fnQ [.tmp 2] post) (initS args 116) M) : Fn Try.prog 90 args M post :=
  Fn.of' (E := e90) Try.func90 t90 rfl r90 mixed hl h
noncomputable def e91 : Env := ⟨Try.prog, [4], 34, []⟩
noncomputable def c91 : C :=
  .seq (.reg [
    ⟨some 2, none, .mov (.const (.bool false))⟩]) (.seq (.seq (.reg [
    ⟨some 5, none, .mov (.tmp 0)⟩,
    ⟨some 6, none, .nilCheck (.tmp 5)⟩,
    ⟨some 7, none, .faddr 4 (.tmp 6)⟩,
    ⟨some 8, none, .load true 1 (.tmp 7)⟩,
    ⟨some 9, none, .lenS (.tmp 8)⟩,
    ⟨some 10, none, .mov (.const (.int .i64 0))⟩]) (.block 0 (.loop (.seq (.reg [
    ⟨some 11, none, .bin .lss (.tmp 10) (.tmp 9)⟩]) (.seq (.cond (.tmp 11) (.skip) (.exit 0)) (.seq (.block 1 (.seq (.reg [
    ⟨some 12, none, .mov (.tmp 10)⟩,
    ⟨some 13, none, .iaddr 8 (.tmp 8) (.tmp 10)⟩,
    ⟨some 14, none, .load false 8 (.tmp 13)⟩,
    ⟨some 4, none, .alloc true [.int .i64 0, .int .i64 0, .int .i64 0, .int .i64 0, .int .i64 0, .int .i64 0, .int .i64 0, .slice none 0 0]⟩,
    ⟨some 3, none, .mov (.tmp 12)⟩,
    ⟨none, none, .store 8 (.tmp 4) (.tmp 14)⟩]) (.seq (.reg [
    ⟨some 15, none, .mov (.tmp 0)⟩,
    ⟨some 16, none, .nilCheck (.tmp 15)⟩,
    ⟨some 17, none, .faddr 5 (.tmp 16)⟩,
    ⟨some 18, none, .load true 1 (.tmp 17)⟩,
    ⟨some 19, none, .bin .eql (.tmp 18) (.const (.int .i64 6))⟩,
    ⟨some 20, none, .mov (.tmp 19)⟩,
    ⟨some 21, some (20, true), .mov (.tmp 3)⟩,
    ⟨some 22, some (20, true), .mov (.tmp 0)⟩,
    ⟨some 23, some (20, true), .nilCheck (.tmp 22)⟩,
    ⟨some 24, some (20, true), .faddr 6 (.tmp 23)⟩,
    ⟨some 25, some (20, true), .load true 1 (.tmp 24)⟩,
    ⟨some 26, some (20, true), .bin .geq (.tmp 21) (.tmp 25)⟩,
    ⟨some 27, none, .pick (.tmp 20) (.tmp 26) (.const (.bool false))⟩,
    ⟨some 28, none, .mov (.tmp 27)⟩,
    ⟨some 29, some (28, true), .faddr 0 (.tmp 4)⟩,
    ⟨some 30, some (28, true), .load true 1 (.tmp 29)⟩,
    ⟨some 31, some (28, true), .bin .eql (.tmp 30) (.const (.int .i64 2))⟩,
    ⟨some 32, none, .pick (.tmp 28) (.tmp 31) (.const (.bool false))⟩]) (.cond (.tmp 32) (.seq (.reg [
    ⟨some 2, none, .mov (.const (.bool false))⟩]) (.ret)) (.skip))))) (.reg [
    ⟨some 33, none, .bin .add (.tmp 10) (.const (.int .i64 1))⟩,
    ⟨some 10, none, .mov (.tmp 33)⟩]))))))) (.seq (.reg [
    ⟨some 2, none, .mov (.const (.bool true))⟩]) (.ret)))
theorem t91 : Try.f91.body.bind (trC e91) = some c91 := by kernel_rfl
theorem r91 : Try.f91.results.toList.mapM (trR Try.prog) = some [.tmp 2] := by kernel_rfl
theorem fn91 {args : List Value} {M : Mem} {post : Value → Mem → Prop} (hl : args.length ≤ 34) (h : VC e91 c91 (fnQ [.tmp 2] post) (initS args 34) M) : Fn Try.prog 91 args M post :=
  Fn.of' (E := e91) Try.func91 t91 rfl r91 mixed hl h
noncomputable def e31 : Env := ⟨Try.prog, [], 37, [(6, 12)]⟩
noncomputable def c31 : C :=
  .seq (.reg [
    ⟨some 1, none, .box false (.tmp 0)⟩,
    ⟨some 2, none, .mov (.const (.int .i64 0))⟩]) (.seq (.reg [
    ⟨some 3, none, .mov (.tmp 1)⟩]) (.seq (.seq (.reg [
    ⟨some 4, none, .mov (.tmp 3)⟩,
    ⟨some 5, none, .call 84 [.tmp 4]⟩,
    ⟨some 6, none, .not (.tmp 5)⟩]) (.cond (.tmp 6) (.seq (.reg [
    ⟨some 2, none, .mov (.const (.int .i64 1))⟩]) (.ret)) (.skip))) (.seq (.seq (.reg [
    ⟨some 7, none, .mov (.tmp 3)⟩,
    ⟨some 8, none, .call 85 [.tmp 7]⟩,
    ⟨some 9, none, .not (.tmp 8)⟩]) (.cond (.tmp 9) (.seq (.reg [
    ⟨some 2, none, .mov (.const (.int .i64 2))⟩]) (.ret)) (.skip))) (.seq (.seq (.dreg 12 [
    ⟨some 10, none, .faddr 1 (.tmp 1)⟩,
    ⟨some 11, none, .load true 1 (.tmp 10)⟩,
    ⟨some 12, none, .mov (.tmp 3)⟩,
    ⟨some 13, none, .qcall 86 [.tmp 12]⟩,
    ⟨some 14, none, .bin .neq (.tmp 11) (.tmp 13)⟩,
    ⟨some 15, none, .mov (.tmp 14)⟩,
    ⟨some 16, some (15, false), .faddr 1 (.tmp 1)⟩,
    ⟨some 17, some (15, false), .load true 1 (.tmp 16)⟩,
    ⟨some 18, some (15, false), .faddr 0 (.tmp 1)⟩,
    ⟨some 19, some (15, false), .load true 1 (.tmp 18)⟩,
    ⟨some 20, some (15, false), .bin .gtr (.tmp 17) (.tmp 19)⟩,
    ⟨some 21, none, .pick (.tmp 15) (.const (.bool true)) (.tmp 20)⟩]) (.cond (.tmp 21) (.seq (.reg [
    ⟨some 2, none, .mov (.const (.int .i64 3))⟩]) (.ret)) (.skip))) (.seq (.seq (.reg [
    ⟨some 22, none, .mov (.tmp 3)⟩,
    ⟨some 23, none, .call 87 [.tmp 22]⟩,
    ⟨some 24, none, .not (.tmp 23)⟩]) (.cond (.tmp 24) (.seq (.reg [
    ⟨some 2, none, .mov (.const (.int .i64 4))⟩]) (.ret)) (.skip))) (.seq (.seq (.reg [
    ⟨some 25, none, .mov (.tmp 3)⟩,
    ⟨some 26, none, .call 88 [.tmp 25]⟩,
    ⟨some 27, none, .not (.tmp 26)⟩]) (.cond (.tmp 27) (.seq (.reg [
    ⟨some 2, none, .mov (.const (.int .i64 5))⟩]) (.ret)) (.skip))) (.seq (.seq (.reg [
    ⟨some 28, none, .mov (.tmp 3)⟩,
    ⟨some 29, none, .call 89 [.tmp 28]⟩,
    ⟨some 30, none, .not (.tmp 29)⟩]) (.cond (.tmp 30) (.seq (.reg [
    ⟨some 2, none, .mov (.const (.int .i64 6))⟩]) (.ret)) (.skip))) (.seq (.seq (.reg [
    ⟨some 31, none, .mov (.tmp 3)⟩,
    ⟨some 32, none, .call 90 [.tmp 31]⟩,
    ⟨some 33, none, .not (.tmp 32)⟩]) (.cond (.tmp 33) (.seq (.reg [
    ⟨some 2, none, .mov (.const (.int .i64 7))⟩]) (.ret)) (.skip))) (.seq (.seq (.reg [
    ⟨some 34, none, .mov (.tmp 3)⟩,
    ⟨some 35, none, .call 91 [.tmp 34]⟩,
    ⟨some 36, none, .not (.tmp 35)⟩]) (.cond (.tmp 36) (.seq (.reg [
    ⟨some 2, none, .mov (.const (.int .i64 8))⟩]) (.ret)) (.skip))) (.seq (.reg [
    ⟨some 2, none, .mov (.const (.int .i64 0))⟩]) (.ret)))))))))))
theorem t31 : Try.f31.body.bind (trC e31) = some c31 := by kernel_rfl
theorem r31 : Try.f31.results.toList.mapM (trR Try.prog) = some [.tmp 2] := by kernel_rfl
theorem fn31 {args : List Value} {M : Mem} {post : Value → Mem → Prop} (hl : args.length ≤ 37) (h : VC e31 c31 (fnQ [.tmp 2] post) (initS args 37) M) : Fn Try.prog 31 args M post :=
  Fn.of' (E := e31) Try.func31 t31 rfl r31 mixed hl h
noncomputable def e103 : Env := ⟨Try.prog, [2], 38, []⟩
noncomputable def c103 : C :=
  .seq (.reg [
    ⟨some 2, none, .box true (.tmp 0)⟩,
    ⟨some 4, none, .mov (.const (.bool false))⟩]) (.seq (.seq (.reg [
    ⟨some 5, none, .faddr 0 (.tmp 2)⟩,
    ⟨some 6, none, .load true 1 (.tmp 5)⟩]) (.block 0 (.seq (.reg [
    ⟨some 8, none, .bin .eql (.tmp 6) (.const (.int .i64 0))⟩,
    ⟨some 7, none, .mov (.tmp 8)⟩]) (.cond (.tmp 7) (.seq (.reg [
    ⟨some 9, none, .faddr 1 (.tmp 2)⟩,
    ⟨some 10, none, .load true 1 (.tmp 9)⟩,
    ⟨some 11, none, .bin .eql (.tmp 10) (.const (.int .i64 0))⟩,
    ⟨some 12, none, .mov (.tmp 11)⟩,
    ⟨some 13, some (12, true), .faddr 2 (.tmp 2)⟩,
    ⟨some 14, some (12, true), .load true 1 (.tmp 13)⟩,
    ⟨some 15, some (12, true), .bin .eql (.tmp 14) (.const (.int .i64 0))⟩,
    ⟨some 16, none, .pick (.tmp 12) (.tmp 15) (.const (.bool false))⟩,
    ⟨some 4, none, .mov (.tmp 16)⟩]) (.ret)) (.seq (.reg [
    ⟨some 18, none, .bin .eql (.tmp 6) (.const (.int .i64 1))⟩,
    ⟨some 17, none, .mov (.tmp 18)⟩]) (.cond (.tmp 17) (.seq (.reg [
    ⟨some 19, none, .faddr 2 (.tmp 2)⟩,
    ⟨some 20, none, .load true 1 (.tmp 19)⟩,
    ⟨some 21, none, .bin .eql (.tmp 20) (.const (.int .i64 0))⟩,
    ⟨some 4, none, .mov (.tmp 21)⟩]) (.ret)) (.seq (.reg [
    ⟨some 23, none, .bin .eql (.tmp 6) (.const (.int .i64 2))⟩,
    ⟨some 22, none, .mov (.tmp 23)⟩]) (.cond (.tmp 22) (.seq (.reg [
    ⟨some 24, none, .faddr 1 (.tmp 2)⟩,
    ⟨some 25, none, .load true 1 (.tmp 24)⟩,
    ⟨some 26, none, .bin .eql (.tmp 25) (.const (.int .i64 0))⟩,
    ⟨some 27, none, .mov (.tmp 26)⟩,
    ⟨some 28, some (27, true), .faddr 2 (.tmp 2)⟩,
    ⟨some 29, some (27, true), .load true 1 (.tmp 28)⟩,
    ⟨some 30, some (27, true), .bin .geq (.tmp 29) (.const (.int .i64 0))⟩,
    ⟨some 31, none, .pick (.tmp 27) (.tmp 30) (.const (.bool false))⟩,
    ⟨some 32, none, .mov (.tmp 31)⟩,
    ⟨some 33, some (32, true), .faddr 2 (.tmp 2)⟩,
    ⟨some 34, some (32, true), .load true 1 (.tmp 33)⟩,
    ⟨some 35, some (32, true), .mov (.tmp 1)⟩,
    ⟨some 36, some (32, true), .bin .lss (.tmp 34) (.tmp 35)⟩,
    ⟨some 37, none, .pick (.tmp 32) (.tmp 36) (.const (.bool false))⟩,
    ⟨some 4, none, .mov (.tmp 37)⟩]) (.ret)) (.skip))))))))) (.seq (.reg [
    ⟨some 4, none, .mov (.const (.bool false))⟩]) (.ret)))
theorem t103 : Try.f103.body.bind (trC e103) = some c103 := by kernel_rfl
theorem r103 : Try.f103.results.toList.mapM (trR Try.prog) = some [.tmp 4] := by kernel_rfl
theorem fn103 {args : List Value} {M : Mem} {post : Value → Mem → Prop} (hl : args.length ≤ 38) (h : VC e103 c103 (fnQ [.tmp 4] post) (initS args 38) M) : Fn Try.prog 103 args M post :=
  Fn.of' (E := e103) Try.func103 t103 rfl r103 mixed hl h
noncomputable def e134 : Env := ⟨Try.prog, [], 14, []⟩
noncomputable def c134 : C :=
  .seq (.reg [
    ⟨some 4, none, .mov (.const (.bool false))⟩]) (.seq (.reg [
    ⟨some 5, none, .mov (.tmp 0)⟩,
    ⟨some 6, none, .nilCheck (.tmp 5)⟩,
    ⟨some 7, none, .faddr 4 (.tmp 6)⟩,
    ⟨some 8, none, .load true 1 (.tmp 7)⟩,
    ⟨some 9, none, .mov (.tmp 1)⟩,
    ⟨some 10, none, .iaddr 8 (.tmp 8) (.tmp 9)⟩,
    ⟨some 11, none, .faddr 0 (.tmp 10)⟩,
    ⟨some 12, none, .load true 1 (.tmp 11)⟩,
    ⟨some 13, none, .bin .eql (.tmp 12) (.const (.int .i64 1))⟩,
    ⟨some 4, none, .mov (.tmp 13)⟩]) (.ret))
theorem t134 : Try.f134.body.bind (trC e134) = some c134 := by kernel_rfl
theorem r134 : Try.f134.results.toList.mapM (trR Try.prog) = some [.tmp 4] := by kernel_rfl
theorem fn134 {args : List Value} {M : Mem} {post : Value → Mem → Prop} (hl : args.length ≤ 14) (h : VC e134 c134 (fnQ [.tmp 4] post) (initS args 14) M) : Fn Try.prog 134 args M post :=
  Fn.of' (E := e134) Try.func134 t134 rfl r134 mixed hl h
noncomputable def e135 : Env := ⟨Try.prog, [4, 6], 52, []⟩
noncomputable def c135 : C :=
  .seq (.reg [
    ⟨some 2, none, .mov (.const (.bool false))⟩]) (.seq (.seq (.reg [
    ⟨some 7, none, .mov (.tmp 0)⟩,
    ⟨some 8, none, .nilCheck (.tmp 7)⟩,
    ⟨some 9, none, .faddr 4 (.tmp 8)⟩,
    ⟨some 10, none, .load true 1 (.tmp 9)⟩,
    ⟨some 11, none, .lenS (.tmp 10)⟩,
    ⟨some 12, none, .mov (.const (.int .i64 0))⟩]) (.block 0 (.loop (.seq (.reg [
    ⟨some 13, none, .bin .lss (.tmp 12) (.tmp 11)⟩]) (.seq (.cond (.tmp 13) (.skip) (.exit 0)) (.seq (.block 1 (.seq (.reg [
    ⟨some 14, none, .mov (.tmp 12)⟩,
    ⟨some 15, none, .iaddr 8 (.tmp 10) (.tmp 12)⟩,
    ⟨some 16, none, .load false 8 (.tmp 15)⟩,
    ⟨some 4, none, .alloc true [.int .i64 0, .int .i64 0, .int .i64 0, .int .i64 0, .int .i64 0, .int .i64 0, .int .i64 0, .slice none 0 0]⟩,
    ⟨some 3, none, .mov (.tmp 14)⟩,
    ⟨none, none, .store 8 (.tmp 4) (.tmp 16)⟩]) (.seq (.seq (.reg [
    ⟨some 17, none, .faddr 0 (.tmp 4)⟩,
    ⟨some 18, none, .load true 1 (.tmp 17)⟩,
    ⟨some 19, none, .bin .eql (.tmp 18) (.const (.int .i64 0))⟩]) (.cond (.tmp 19) (.exit 1) (.skip))) (.seq (.reg [
    ⟨some 5, none, .mov (.const (.int .i64 0))⟩]) (.block 2 (.loop (.seq (.seq (.reg [
    ⟨some 20, none, .mov (.tmp 5)⟩,
    ⟨some 21, none, .mov (.tmp 3)⟩,
    ⟨some 22, none, .bin .lss (.tmp 20) (.tmp 21)⟩]) (.cond (.tmp 22) (.skip) (.exit 2))) (.seq (.block 3 (.seq (.reg [
    ⟨some 25, none, .mov (.tmp 0)⟩,
    ⟨some 26, none, .nilCheck (.tmp 25)⟩,
    ⟨some 27, none, .faddr 4 (.tmp 26)⟩,
    ⟨some 28, none, .load true 1 (.tmp 27)⟩,
    ⟨some 29, none, .mov (.tmp 5)⟩,
    ⟨some 30, none, .iaddr 8 (.tmp 28) (.tmp 29)⟩,
    ⟨some 31, none, .load false 8 (.tmp 30)⟩,
    ⟨some 6, none, .alloc true [.int .i64 0, .int .i64 0, .int .i64 0, .int .i64 0, .int .i64 0, .int .i64 0, .int .i64 0, .slice none 0 0]⟩,
    ⟨none, none, .store 8 (.tmp 6) (.tmp 31)⟩]) (.seq (.reg [
    ⟨some 32, none, .faddr 0 (.tmp 6)⟩,
    ⟨some 33, none, .load true 1 (.tmp 32)⟩,
    ⟨some 34, none, .faddr 0 (.tmp 4)⟩,
    ⟨some 35, none, .load true 1 (.tmp 34)⟩,
    ⟨some 36, none, .bin .eql (.tmp 33) (.tmp 35)⟩,
    ⟨some 37, none, .mov (.tmp 36)⟩,
    ⟨some 38, some (37, true), .faddr 4 (.tmp 6)⟩,
    ⟨some 39, some (37, true), .load true 1 (.tmp 38)⟩,
    ⟨some 40, some (37, true), .faddr 4 (.tmp 4)⟩,
    ⟨some 41, some (37, true), .load true 1 (.tmp 40)⟩,
    ⟨some 42, some (37, true), .bin .eql (.tmp 39) (.tmp 41)⟩,
    ⟨some 43, none, .pick (.tmp 37) (.tmp 42) (.const (.bool false))⟩,
    ⟨some 44, none, .mov (.tmp 43)⟩,
    ⟨some 45, some (44, true), .faddr 6 (.tmp 6)⟩,
    ⟨some 46, some (44, true), .load true 1 (.tmp 45)⟩,
    ⟨some 47, some (44, true), .faddr 6 (.tmp 4)⟩,
    ⟨some 48, some (44, true), .load true 1 (.tmp 47)⟩,
    ⟨some 49, some (44, true), .bin .eql (.tmp 46) (.tmp 48)⟩,
    ⟨some 50, none, .pick (.tmp 44) (.tmp 49) (.const (.bool false))⟩]) (.cond (.tmp 50) (.seq (.reg [
    ⟨some 2, none, .mov (.const (.bool false))⟩]) (.ret)) (.skip))))) (.reg [
    ⟨some 23, none, .mov (.tmp 5)⟩,
    ⟨some 24, none, .bin .add (.tmp 23) (.const (.int .i64 1))⟩,
    ⟨some 5, none, .mov (.tmp 24)⟩]))))))))) (.reg [
    ⟨some 51, none, .bin .add (.tmp 12) (.const (.int .i64 1))⟩,
    ⟨some 12, none, .mov (.tmp 51)⟩]))))))) (.seq (.reg [
    ⟨some 2, none, .mov (.const (.bool true))⟩]) (.ret)))
theorem t135 : Try.f135.body.bind (trC e135) = some c135 := by kernel_rfl
theorem r135 : Try.f135.results.toList.mapM (trR Try.prog) = some [.tmp 2] := by kernel_rfl
theorem fn135 {args : List Value} {M : Mem} {post : Value → Mem → Prop} (hl : args.length ≤ 52) (h : VC e135 c135 (fnQ [.tmp 2] post) (initS args 52) M) : Fn Try.prog 135 args M post :=
  Fn.of' (E := e135) Try.func135 t135 rfl r135 mixed hl h
noncomputable def e136 : Env := ⟨Try.prog, [4, 7], 41, [(1, 8), (5, 9)]⟩
noncomputable def c136 : C :=
  .seq (.reg [
    ⟨some 4, none, .box true (.tmp 1)⟩,
    ⟨some 6, none, .mov (.const (.bool false))⟩]) (.seq (.seq (.dreg 8 [
    ⟨some 8, none, .load false 3 (.tmp 4)⟩,
    ⟨some 9, none, .mov (.tmp 0)⟩,
    ⟨some 10, none, .nilCheck (.tmp 9)⟩,
    ⟨some 11, none, .faddr 4 (.tmp 10)⟩,
    ⟨some 12, none, .load true 1 (.tmp 11)⟩,
    ⟨some 13, none, .lenS (.tmp 12)⟩,
    ⟨some 14, none, .qcall 103 [.tmp 8, .tmp 13]⟩,
    ⟨some 15, none, .not (.tmp 14)⟩]) (.cond (.tmp 15) (.seq (.reg [
    ⟨some 6, none, .mov (.const (.bool false))⟩]) (.ret)) (.skip))) (.seq (.seq (.reg [
    ⟨some 16, none, .faddr 0 (.tmp 4)⟩,
    ⟨some 17, none, .load true 1 (.tmp 16)⟩,
    ⟨some 18, none, .bin .neq (.tmp 17) (.const (.int .i64 2))⟩]) (.cond (.tmp 18) (.seq (.reg [
    ⟨some 6, none, .mov (.const (.bool true))⟩]) (.ret)) (.skip))) (.seq (.dreg 9 [
    ⟨some 19, none, .mov (.tmp 0)⟩,
    ⟨some 20, none, .nilCheck (.tmp 19)⟩,
    ⟨some 21, none, .faddr 4 (.tmp 20)⟩,
    ⟨some 22, none, .load true 1 (.tmp 21)⟩,
    ⟨some 23, none, .faddr 2 (.tmp 4)⟩,
    ⟨some 24, none, .load true 1 (.tmp 23)⟩,
    ⟨some 25, none, .iaddr 8 (.tmp 22) (.tmp 24)⟩,
    ⟨some 26, none, .load false 8 (.tmp 25)⟩,
    ⟨some 7, none, .alloc true [.int .i64 0, .int .i64 0, .int .i64 0, .int .i64 0, .int .i64 0, .int .i64 0, .int .i64 0, .slice none 0 0]⟩,
    ⟨none, none, .store 8 (.tmp 7) (.tmp 26)⟩]) (.seq (.seq (.reg [
    ⟨some 27, none, .faddr 0 (.tmp 7)⟩,
    ⟨some 28, none, .load true 1 (.tmp 27)⟩,
    ⟨some 29, none, .bin .eql (.tmp 28) (.const (.int .i64 2))⟩]) (.cond (.tmp 29) (.seq (.reg [
    ⟨some 30, none, .mov (.tmp 2)⟩,
    ⟨some 6, none, .mov (.tmp 30)⟩]) (.ret)) (.skip))) (.seq (.reg [
    ⟨some 31, none, .faddr 0 (.tmp 7)⟩,
    ⟨some 32, none, .load true 1 (.tmp 31)⟩,
    ⟨some 33, none, .bin .eql (.tmp 32) (.const (.int .i64 1))⟩,
    ⟨some 34, none, .mov (.tmp 33)⟩,
    ⟨some 35, some (34, true), .mov (.tmp 0)⟩,
    ⟨some 36, some (34, true), .faddr 2 (.tmp 4)⟩,
    ⟨some 37, some (34, true), .load true 1 (.tmp 36)⟩,
    ⟨some 38, some (34, true), .call 137 [.tmp 35, .tmp 37]⟩,
    ⟨some 39, some (34, true), .not (.tmp 38)⟩,
    ⟨some 40, none, .pick (.tmp 34) (.tmp 39) (.const (.bool false))⟩,
    ⟨some 6, none, .mov (.tmp 40)⟩]) (.ret))))))
theorem t136 : Try.f136.body.bind (trC e136) = some c136 := by kernel_rfl
theorem r136 : Try.f136.results.toList.mapM (trR Try.prog) = some [.tmp 6] := by kernel_rfl
theorem fn136 {args : List Value} {M : Mem} {post : Value → Mem → Prop} (hl : args.length ≤ 41) (h : VC e136 c136 (fnQ [.tmp 6] post) (initS args 41) M) : Fn Try.prog 136 args M post :=
  Fn.of' (E := e136) Try.func136 t136 rfl r136 mixed hl h
noncomputable def e137 : Env := ⟨Try.prog, [], 34, []⟩
noncomputable def c137 : C :=
  .seq (.reg [
    ⟨some 4, none, .mov (.const (.bool false))⟩]) (.seq (.reg [
    ⟨some 5, none, .mov (.tmp 0)⟩,
    ⟨some 6, none, .nilCheck (.tmp 5)⟩,
    ⟨some 7, none, .faddr 5 (.tmp 6)⟩,
    ⟨some 8, none, .load true 1 (.tmp 7)⟩,
    ⟨some 9, none, .bin .eql (.tmp 8) (.const (.int .i64 3))⟩,
    ⟨some 10, none, .mov (.tmp 9)⟩,
    ⟨some 11, some (10, true), .mov (.tmp 1)⟩,
    ⟨some 12, some (10, true), .mov (.tmp 0)⟩,
    ⟨some 13, some (10, true), .nilCheck (.tmp 12)⟩,
    ⟨some 14, some (10, true), .faddr 6 (.tmp 13)⟩,
    ⟨some 15, some (10, true), .load true 1 (.tmp 14)⟩,
    ⟨some 16, some (10, true), .bin .geq (.tmp 11) (.tmp 15)⟩,
    ⟨some 17, none, .pick (.tmp 10) (.tmp 16) (.const (.bool false))⟩,
    ⟨some 18, none, .mov (.tmp 17)⟩,
    ⟨some 19, some (18, true), .mov (.tmp 0)⟩,
    ⟨some 20, some (18, true), .mov (.tmp 1)⟩,
    ⟨some 21, some (18, true), .call 134 [.tmp 19, .tmp 20]⟩,
    ⟨some 22, none, .pick (.tmp 18) (.tmp 21) (.const (.bool false))⟩,
    ⟨some 23, none, .mov (.tmp 22)⟩,
    ⟨some 24, some (23, true), .mov (.tmp 0)⟩,
    ⟨some 25, some (23, true), .nilCheck (.tmp 24)⟩,
    ⟨some 26, some (23, true), .faddr 4 (.tmp 25)⟩,
    ⟨some 27, some (23, true), .load true 1 (.tmp 26)⟩,
    ⟨some 28, some (23, true), .mov (.tmp 1)⟩,
    ⟨some 29, some (23, true), .iaddr 8 (.tmp 27) (.tmp 28)⟩,
    ⟨some 30, some (23, true), .faddr 5 (.tmp 29)⟩,
    ⟨some 31, some (23, true), .load true 1 (.tmp 30)⟩,
    ⟨some 32, some (23, true), .bin .eql (.tmp 31) (.const (.int .i64 0))⟩,
    ⟨some 33, none, .pick (.tmp 23) (.tmp 32) (.const (.bool false))⟩,
    ⟨some 4, none, .mov (.tmp 33)⟩]) (.ret))
theorem t137 : Try.f137.body.bind (trC e137) = some c137 := by kernel_rfl
theorem r137 : Try.f137.results.toList.mapM (trR Try.prog) = some [.tmp 4] := by kernel_rfl
theorem fn137 {args : List Value} {M : Mem} {post : Value → Mem → Prop} (hl : args.length ≤ 34) (h : VC e137 c137 (fnQ [.tmp 4] post) (initS args 34) M) : Fn Try.prog 137 args M post :=
  Fn.of' (E := e137) Try.func137 t137 rfl r137 mixed hl h
noncomputable def e138 : Env := ⟨Try.prog, [], 37, []⟩
noncomputable def c138 : C :=
  .seq (.reg [
    ⟨some 6, none, .mov (.const (.bool false))⟩]) (.seq (.seq (.reg [
    ⟨some 7, none, .mov (.tmp 0)⟩,
    ⟨some 8, none, .nilCheck (.tmp 7)⟩,
    ⟨some 9, none, .faddr 5 (.tmp 8)⟩,
    ⟨some 10, none, .load true 1 (.tmp 9)⟩]) (.block 0 (.seq (.reg [
    ⟨some 12, none, .bin .eql (.tmp 10) (.const (.int .i64 4))⟩,
    ⟨some 11, none, .mov (.tmp 12)⟩]) (.cond (.tmp 11) (.seq (.reg [
    ⟨some 6, none, .mov (.const (.bool false))⟩]) (.ret)) (.seq (.reg [
    ⟨some 14, none, .bin .eql (.tmp 10) (.const (.int .i64 5))⟩,
    ⟨some 13, none, .mov (.tmp 14)⟩]) (.cond (.tmp 13) (.seq (.reg [
    ⟨some 15, none, .mov (.tmp 1)⟩,
    ⟨some 16, none, .mov (.tmp 0)⟩,
    ⟨some 17, none, .nilCheck (.tmp 16)⟩,
    ⟨some 18, none, .faddr 6 (.tmp 17)⟩,
    ⟨some 19, none, .load true 1 (.tmp 18)⟩,
    ⟨some 20, none, .bin .lss (.tmp 15) (.tmp 19)⟩,
    ⟨some 21, none, .mov (.tmp 20)⟩,
    ⟨some 22, some (21, false), .mov (.tmp 1)⟩,
    ⟨some 23, some (21, false), .mov (.tmp 0)⟩,
    ⟨some 24, some (21, false), .nilCheck (.tmp 23)⟩,
    ⟨some 25, some (21, false), .faddr 6 (.tmp 24)⟩,
    ⟨some 26, some (21, false), .load true 1 (.tmp 25)⟩,
    ⟨some 27, some (21, false), .bin .eql (.tmp 22) (.tmp 26)⟩,
    ⟨some 28, some (21, false), .mov (.tmp 27)⟩,
    ⟨some 29, some (28, true), .mov (.tmp 2)⟩,
    ⟨some 30, some (28, true), .mov (.tmp 0)⟩,
    ⟨some 31, some (28, true), .nilCheck (.tmp 30)⟩,
    ⟨some 32, some (28, true), .faddr 7 (.tmp 31)⟩,
    ⟨some 33, some (28, true), .load true 1 (.tmp 32)⟩,
    ⟨some 34, some (28, true), .bin .lss (.tmp 29) (.tmp 33)⟩,
    ⟨some 35, some (21, false), .pick (.tmp 28) (.tmp 34) (.const (.bool false))⟩,
    ⟨some 36, none, .pick (.tmp 21) (.const (.bool true)) (.tmp 35)⟩,
    ⟨some 6, none, .mov (.tmp 36)⟩]) (.ret)) (.skip))))))) (.seq (.reg [
    ⟨some 6, none, .mov (.const (.bool true))⟩]) (.ret)))
theorem t138 : Try.f138.body.bind (trC e138) = some c138 := by kernel_rfl
theorem r138 : Try.f138.results.toList.mapM (trR Try.prog) = some [.tmp 6] := by kernel_rfl
theorem fn138 {args : List Value} {M : Mem} {post : Value → Mem → Prop} (hl : args.length ≤ 37) (h : VC e138 c138 (fnQ [.tmp 6] post) (initS args 37) M) : Fn Try.prog 138 args M post :=
  Fn.of' (E := e138) Try.func138 t138 rfl r138 mixed hl h
noncomputable def e139 : Env := ⟨Try.prog, [3], 20, [(1, 15)]⟩
noncomputable def c139 : C :=
  .seq (.reg [
    ⟨some 3, none, .box true (.tmp 1)⟩,
    ⟨some 4, none, .mov (.const (.bool false))⟩]) (.seq (.dreg 15 [
    ⟨some 5, none, .faddr 0 (.tmp 3)⟩,
    ⟨some 6, none, .load true 1 (.tmp 5)⟩,
    ⟨some 7, none, .bin .eql (.tmp 6) (.const (.int .i64 2))⟩,
    ⟨some 8, none, .mov (.tmp 7)⟩,
    ⟨some 9, some (8, true), .mov (.tmp 0)⟩,
    ⟨some 10, some (8, true), .nilCheck (.tmp 9)⟩,
    ⟨some 11, some (8, true), .faddr 4 (.tmp 10)⟩,
    ⟨some 12, some (8, true), .load true 1 (.tmp 11)⟩,
    ⟨some 13, some (8, true), .faddr 2 (.tmp 3)⟩,
    ⟨some 14, some (8, true), .load true 1 (.tmp 13)⟩,
    ⟨some 15, some (8, true), .iaddr 8 (.tmp 12) (.tmp 14)⟩,
    ⟨some 16, some (8, true), .faddr 5 (.tmp 15)⟩,
    ⟨some 17, some (8, true), .load true 1 (.tmp 16)⟩,
    ⟨some 18, some (8, true), .bin .eql (.tmp 17) (.const (.int .i64 0))⟩,
    ⟨some 19, none, .pick (.tmp 8) (.tmp 18) (.const (.bool false))⟩,
    ⟨some 4, none, .mov (.tmp 19)⟩]) (.ret))
theorem t139 : Try.f139.body.bind (trC e139) = some c139 := by kernel_rfl
theorem r139 : Try.f139.results.toList.mapM (trR Try.prog) = some [.tmp 4] := by kernel_rfl
theorem fn139 {args : List Value} {M : Mem} {post : Value → Mem → Prop} (hl : args.length ≤ 20) (h : VC e139 c139 (fnQ [.tmp 4] post) (initS args 20) M) : Fn Try.prog 139 args M post :=
  Fn.of' (E := e139) Try.func139 t139 rfl r139 mixed hl h
noncomputable def e104 : Env := ⟨Try.prog, [3, 4], 31, [(1, 15), (2, 10)]⟩
noncomputable def c104 : C :=
  .seq (.reg [
    ⟨some 3, none, .box true (.tmp 1)⟩,
    ⟨some 4, none, .alloc true [.int .i64 0, .int .i64 0, .int .i64 0]⟩]) (.seq (.seq (.dreg 15 [
    ⟨some 5, none, .faddr 0 (.tmp 3)⟩,
    ⟨some 6, none, .load true 1 (.tmp 5)⟩,
    ⟨some 7, none, .bin .eql (.tmp 6) (.const (.int .i64 2))⟩,
    ⟨some 8, none, .mov (.tmp 7)⟩,
    ⟨some 9, some (8, true), .mov (.tmp 0)⟩,
    ⟨some 10, some (8, true), .nilCheck (.tmp 9)⟩,
    ⟨some 11, some (8, true), .faddr 4 (.tmp 10)⟩,
    ⟨some 12, some (8, true), .load true 1 (.tmp 11)⟩,
    ⟨some 13, some (8, true), .faddr 2 (.tmp 3)⟩,
    ⟨some 14, some (8, true), .load true 1 (.tmp 13)⟩,
    ⟨some 15, some (8, true), .iaddr 8 (.tmp 12) (.tmp 14)⟩,
    ⟨some 16, some (8, true), .faddr 0 (.tmp 15)⟩,
    ⟨some 17, some (8, true), .load true 1 (.tmp 16)⟩,
    ⟨some 18, some (8, true), .bin .eql (.tmp 17) (.const (.int .i64 2))⟩,
    ⟨some 19, none, .pick (.tmp 8) (.tmp 18) (.const (.bool false))⟩]) (.cond (.tmp 19) (.seq (.dreg 10 [
    ⟨some 20, none, .mov (.tmp 0)⟩,
    ⟨some 21, none, .nilCheck (.tmp 20)⟩,
    ⟨some 22, none, .faddr 4 (.tmp 21)⟩,
    ⟨some 23, none, .load true 1 (.tmp 22)⟩,
    ⟨some 24, none, .faddr 2 (.tmp 3)⟩,
    ⟨some 25, none, .load true 1 (.tmp 24)⟩,
    ⟨some 26, none, .iaddr 8 (.tmp 23) (.tmp 25)⟩,
    ⟨some 27, none, .faddr 6 (.tmp 26)⟩,
    ⟨some 28, none, .load true 1 (.tmp 27)⟩,
    ⟨some 29, none, .build [.int .i64 0, .int .i64 0, .int .i64 0] [(0, 1, .const (.int .i64 2)), (2, 1, .tmp 28)]⟩,
    ⟨none, none, .store 3 (.tmp 4) (.tmp 29)⟩]) (.ret)) (.skip))) (.seq (.reg [
    ⟨some 30, none, .load false 3 (.tmp 3)⟩,
    ⟨none, none, .store 3 (.tmp 4) (.tmp 30)⟩]) (.ret)))
theorem t104 : Try.f104.body.bind (trC e104) = some c104 := by kernel_rfl
theorem r104 : Try.f104.results.toList.mapM (trR Try.prog) = some [.cell 4 false 3] := by kernel_rfl
theorem fn104 {args : List Value} {M : Mem} {post : Value → Mem → Prop} (hl : args.length ≤ 31) (h : VC e104 c104 (fnQ [.cell 4 false 3] post) (initS args 31) M) : Fn Try.prog 104 args M post :=
  Fn.of' (E := e104) Try.func104 t104 rfl r104 mixed hl h
end Go.Proofs.Ytcmllambknfleaa.E
