/- A part of the proof. Conditions: none. -/
import Derived.Test.YtcmllambknfleaaKF10
set_option linter.unusedVariables false
set_option linter.unusedSimpArgs false
set_option maxHeartbeats 8000000
set_option maxRecDepth 100000
namespace Go.Proofs.Ytcmllambknfleaa.E
open Go
open Classical
/-- a cell's pairs are other ones, elsewhere -/
theorem pr_repl {ys : List CS} {i : Nat} {y y' : CS} {R : List Asr} (hi : ys[i]? = some y) : Ent (prA ys :: slA 6 pv y'.d y'.c.pairs :: R) (prA (ys.set i y') :: R) := ⟨fun m hm => by
  obtain ⟨a, r, dj, rfl, h1, b, c, d2, rfl, h2, h3⟩ := hm
  obtain ⟨a1, a2, d1, rfl, k1, k2⟩ := star2.1 (pr_out hi h1)
  have hlt := (List.getElem?_eq_some_iff.1 hi).1
  obtain ⟨e1, e2⟩ := disj_un.1 dj
  have e3 := (disj_un'.1 e1).2
  have e4 := (disj_un'.1 e2).2
  have s1 : prA (ys.set i y') (b.un a2) := pr_in hlt (star2.2 ⟨b, a2, e3.symm, rfl, h2, k2⟩)
  refine ⟨(b.un a2).un c, ?_, _, c, disj_un'.2 ⟨d2, e4⟩, rfl, s1, h3⟩
  intro x k hk
  cases h : (b.un a2) x with
  | some k' =>
    rw [un_l h] at hk; cases hk
    cases hb : b x with
    | some k2 => rw [un_l hb] at h; cases h; exact un_r dj (un_l hb)
    | none => rw [un_n hb] at h; exact un_l (un_r d1 h)
  | none => rw [un_n h] at hk; exact un_r dj (un_r d2 hk)⟩
theorem a_cs {P : Program} {S : St} {As R : List Asr} {post : St → List Asr → Prop} {r : List I} {x v : Operand} {cd d : D} {ys : List CS} {i : Nat} {y : CS} (ps : List Pair) (hi : ys[i]? = some y) (hx : lc S x = some (.mm cd.b (cd.o + i * 8 + 7))) (hy : ev S v = some (.slice d.a ps.length d.cap))
    (hp : LA P r post S (clA cd (ys.set i ⟨{ y.c with pairs := ps }, d.a, d.cap⟩) :: R)) (hm : Pm As [clA cd ys, slA 6 pv d ps] R := by (fail_if_success apply pm_bad); (repeat (first | exact pm_nil | (apply pm_cons; repeat (first | exact pk_h | apply pk_t)))); fail_if_success focus skip) : LA P (⟨none, none, .store 1 x v⟩ :: r) post S As := by
  refine LA.ent (Bs := slA 8 csv cd ys :: prA ys :: slA 6 pv d ps :: R) ?_ ?_
  · refine Ent.trans ⟨fun m hm' => ⟨m, Mem.le_refl _, hm.out m hm'⟩⟩ ?_
    exact cl_open
  refine a_st (n := 1) hx hy rfl rfl (up_h (up_sl (j := 7) (e' := ⟨{ y.c with pairs := ps }, d.a, d.cap⟩) csv_len hi (by simp [Value.cells]) rfl)) ?_
  refine LA.ent ?_ hp
  refine Ent.trans (Ent.cons (pr_repl (y' := ⟨{ y.c with pairs := ps }, d.a, d.cap⟩) hi)) ?_
  exact cl_close
theorem tgt_toI {H : Heap} {w : Word} (h2 : R2 H) (hf : Formed H w) : (∃ j : Nat, H.tgt w = some j ∧ H.toI w = j ∧ j < H.cells.length) ∨ (H.tgt w = none ∧ H.toI w = -1) := by
  by_cases hk : w.kind = 2
  · left
    have ht : H.tgt w = some (H.lead w).at_.toNat := by unfold Heap.tgt; rw [if_pos (lead_kind.2 hk)]
    have hl := tgt_lt h2 hf ht
    refine ⟨_, ht, ?_, hl.1⟩
    unfold Heap.toI
    rw [if_pos hk]; exact hl.2.2
  · right
    refine ⟨?_, toI_no hk⟩
    unfold Heap.tgt
    rw [if_neg (fun h => hk (lead_kind.1 h))]
theorem heldL_get {H : Heap} {j : Nat} (h : j < H.cells.length) : (heldL H)[j]? = some (decide (Held H j)) := by
  unfold heldL
  rw [List.getElem?_map, List.getElem?_range h]; rfl
theorem Like.toI {H K : Heap} (h : Like H K) (w : Word) : K.toI w = H.toI w := by
  unfold Heap.toI
  rw [h.lead]
theorem Like.formed {H K : Heap} (h : Like H K) {w : Word} (hf : Formed H w) : Formed K w := formed_len h.len hf
/-- the question of the program's closure -/
theorem lost_q {m : Mem} {a b1 b2 : Nat} {z : HX} {H : Heap} {sd : D} {w : Word} (h : Has m (hp a z)) (hb : Has m [bx b1 [ptr a], bx b2 [.slice sd.a (heldL H).length sd.cap], slA 1 bv sd (heldL H)]) (h2 : R2 H) (hl : Like H z.H) (hf : Formed H w) :
    Qt Try.prog 159 [wa w, ptr b1, ptr b2] m (.bool (decide (Lost H w))) := by
  refine qt_of (fnA_of (fun h => fn159 (by simp) h) ?_)
  have hat := fun hk => (hl.formed hf).at hk
  have hln := heldL_len H
  rcases tgt_toI h2 hf with ⟨j, ht, he, hj⟩ | ⟨ht, he⟩
  · have hg := heldL_get hj
    by_cases hh : Held H j
    · rw [decide_eq_true hh] at hg
      repeat' (first
        | (refine k_L ?_; first | refine a_p rfl ?_ | (refine k_g ?_; refine a_gy rfl rfl ?_) | (refine k_l ?_; first | refine a_l rfl (by exact rd_h (rd_ro hb (rd_h (rd_bx rfl)))) ?_ | refine a_l rfl (by exact rd_h (rd_ro hb (rd_t (rd_h (rd_bx rfl))))) ?_ | refine a_l rfl (by exact rd_h (rd_ro hb (rd_t (rd_t (rd_h (r_bool hg)))))) ?_) | (refine k_i ?_; refine g_i rfl rfl ?_) | (refine k_bx ?_; refine a_bx rfl rfl ?_) | (refine k_c ?_; refine a_cq rfl (fun m hm => qt_e (to_q (x := z) (has_g h hm) hat) (by rw [hl.toI, he])) ?_))
        | refine a_n ?_
        | (refine k_V ?_; first | refine v_seq ?_ | refine v_reg ?_ | refine v_ret ?_))
      exact fa_q (by simp) (fun _ _ => rfl) (ret_f (fun ⟨k, hk, hn⟩ => by rw [ht] at hk; cases hk; exact hn hh))
    · rw [decide_eq_false hh] at hg
      repeat' (first
        | (refine k_L ?_; first | refine a_p rfl ?_ | (refine k_g ?_; refine a_gy rfl rfl ?_) | (refine k_l ?_; first | refine a_l rfl (by exact rd_h (rd_ro hb (rd_h (rd_bx rfl)))) ?_ | refine a_l rfl (by exact rd_h (rd_ro hb (rd_t (rd_h (rd_bx rfl))))) ?_ | refine a_l rfl (by exact rd_h (rd_ro hb (rd_t (rd_t (rd_h (r_bool hg)))))) ?_) | (refine k_i ?_; refine g_i rfl rfl ?_) | (refine k_bx ?_; refine a_bx rfl rfl ?_) | (refine k_c ?_; refine a_cq rfl (fun m hm => qt_e (to_q (x := z) (has_g h hm) hat) (by rw [hl.toI, he])) ?_))
        | refine a_n ?_
        | (refine k_V ?_; first | refine v_seq ?_ | refine v_reg ?_ | refine v_ret ?_))
      exact fa_q (by simp) (fun _ _ => rfl) (ret_t ⟨j, ht, hh⟩)
  · repeat' (first
      | (refine k_L ?_; first | refine a_p rfl ?_ | (refine k_g ?_; refine a_gn rfl rfl ?_) | (refine k_l ?_; refine a_l rfl (by exact rd_h (rd_ro hb (rd_h (rd_bx rfl)))) ?_) | (refine k_bx ?_; refine a_bx rfl rfl ?_) | (refine k_c ?_; refine a_cq rfl (fun m hm => qt_e (to_q (x := z) (has_g h hm) hat) (by rw [hl.toI, he])) ?_))
      | refine a_n ?_
      | (refine k_V ?_; first | refine v_seq ?_ | refine v_reg ?_ | refine v_ret ?_))
    exact fa_q (by simp) (fun _ _ => rfl) (ret_f (fun ⟨k, hk, hn⟩ => by rw [ht] at hk; cases hk))
/-- the reference's -/
theorem l4lost_q {m : Mem} {a : Nat} {z : HX} {H : Heap} {sd : D} {w : Word} (h : Has m (hp a z)) (hbb : Has m [slA 1 bv sd (heldL H)]) (h2 : R2 H) (hl : Like H z.H) (hf : Formed H w) :
    Qt Try.prog 157 [ptr a, .slice sd.a (heldL H).length sd.cap, wa w] m (.bool (decide (Lost H w))) := by
  refine qt_of (fnA_of (fun h => fn157 (by simp) h) ?_)
  have hat := fun hk => (hl.formed hf).at hk
  have hln := heldL_len H
  have hle := hl.lead w
  rcases tgt_toI h2 hf with ⟨j, ht, he, hj⟩ | ⟨ht, he⟩
  · have hg := heldL_get hj
    have hlk := (tgt_lt h2 hf ht).2
    have hkk : (H.lead w).kind = 2 := hlk.1
    have hka : (H.lead w).at_ = j := hlk.2
    by_cases hh : Held H j
    · rw [decide_eq_true hh] at hg
      have hg' : (heldL H)[(H.lead w).at_.toNat]? = some true := by rw [hka]; exact hg
      repeat' (first
        | (refine k_L ?_; first | refine a_p rfl ?_ | (refine k_g ?_; first | refine a_gy rfl rfl ?_ | (refine a_gd rfl (fun hb => ?_) (fun hb => ?_) <;> try (exfalso; omega))) | (refine k_l ?_; refine a_l rfl (by exact rd_h (rd_ro hbb (rd_h (r_bool hg')))) ?_) | (refine k_i ?_; refine g_i rfl rfl ?_) | (refine k_st ?_; refine g_sw rfl rfl rfl rfl (Nat.le_of_ble_eq_true rfl) ?_) | (refine k_al ?_; refine a_al ?_) | (refine k_bx ?_; refine a_bx rfl rfl ?_) | (refine k_c ?_; refine a_cq rfl (fun m hm => qt_e (l1resolve_q (x := z) (has_g h hm) hat) (by rw [hle])) ?_))
        | refine a_n ?_
        | (refine k_V ?_; first | refine v_seq ?_ | refine v_reg ?_ | refine v_ret ?_)
        | refine sk_zero ?_
        | refine sk_succ ?_
        | refine wk_nil ?_
        | refine wk_cons ?_)
      exact fa_q (by simp) (fun _ _ => rfl) (ret_f (fun ⟨k, hk, hn⟩ => by rw [ht] at hk; cases hk; exact hn hh))
    · rw [decide_eq_false hh] at hg
      have hg' : (heldL H)[(H.lead w).at_.toNat]? = some false := by rw [hka]; exact hg
      repeat' (first
        | (refine k_L ?_; first | refine a_p rfl ?_ | (refine k_g ?_; first | refine a_gy rfl rfl ?_ | (refine a_gd rfl (fun hb => ?_) (fun hb => ?_) <;> try (exfalso; omega))) | (refine k_l ?_; refine a_l rfl (by exact rd_h (rd_ro hbb (rd_h (r_bool hg')))) ?_) | (refine k_i ?_; refine g_i rfl rfl ?_) | (refine k_st ?_; refine g_sw rfl rfl rfl rfl (Nat.le_of_ble_eq_true rfl) ?_) | (refine k_al ?_; refine a_al ?_) | (refine k_bx ?_; refine a_bx rfl rfl ?_) | (refine k_c ?_; refine a_cq rfl (fun m hm => qt_e (l1resolve_q (x := z) (has_g h hm) hat) (by rw [hle])) ?_))
        | refine a_n ?_
        | (refine k_V ?_; first | refine v_seq ?_ | refine v_reg ?_ | refine v_ret ?_)
        | refine sk_zero ?_
        | refine sk_succ ?_
        | refine wk_nil ?_
        | refine wk_cons ?_)
      exact fa_q (by simp) (fun _ _ => rfl) (ret_t ⟨j, ht, hh⟩)
  · have hkk : (H.lead w).kind ≠ 2 := fun e => by
      unfold Heap.tgt at ht
      rw [if_pos e] at ht; cases ht
    repeat' (first
      | (refine k_L ?_; first | refine a_p rfl ?_ | (refine k_g ?_; first | refine a_gn rfl rfl ?_ | (refine a_gd rfl (fun hb => ?_) (fun hb => ?_) <;> try (exfalso; omega))) | (refine k_st ?_; refine g_sw rfl rfl rfl rfl (Nat.le_of_ble_eq_true rfl) ?_) | (refine k_al ?_; refine a_al ?_) | (refine k_bx ?_; refine a_bx rfl rfl ?_) | (refine k_c ?_; refine a_cq rfl (fun m hm => qt_e (l1resolve_q (x := z) (has_g h hm) hat) (by rw [hle])) ?_))
      | refine a_n ?_
      | (refine k_V ?_; first | refine v_seq ?_ | refine v_reg ?_ | refine v_ret ?_)
      | refine sk_zero ?_
      | refine sk_succ ?_
      | refine wk_nil ?_
      | refine wk_cons ?_)
    exact fa_q (by simp) (fun _ _ => rfl) (ret_f (fun ⟨k, hk, hn⟩ => by rw [ht] at hk; cases hk))
theorem walked_q {m : Mem} {a : Nat} {x : HX} (h : Has m (hp a x)) : Qt Try.prog 160 [ptr a] m (.int .i64 x.H.walkedI) := by
  refine qt_of (fnA_of (fun h => fn160 (by simp) h) ?_)
  have hnc : x.hdr.nc = x.xs.length := rfl
  have hng : x.hdr.ng = x.gray.length := rfl
  have hl := x.len
  have hp0 : x.hdr.phase = x.H.phase := rfl
  have hh0 : x.hdr.hand = x.H.hand := rfl
  have hlen := h.lens
  unfold Heap.walkedI
  by_cases c : x.H.phase = 2 ∧ x.H.gray ≠ []
  · rw [if_pos c]
    obtain ⟨g, r, hg⟩ : ∃ g r, x.gray = g :: r := by
      cases e : x.gray with
      | nil => exact absurd (show x.H.gray = [] from e) c.2
      | cons g r => exact ⟨g, r, rfl⟩
    have hgl : x.gray.length = r.length + 1 := by rw [hg]; rfl
    have gg : x.gray[(0 : Int).toNat]? = some g := by rw [hg]; rfl
    have c1 := c.1
    have e1 : x.H.gray.headD 0 = g := by show x.gray.headD 0 = g; rw [hg]; rfl
    rw [e1]
    repeat' (first
      | (refine k_L ?_; first | refine a_p rfl ?_ | (refine k_g ?_; first | refine a_gy rfl rfl ?_ | (refine a_gd rfl (fun hb => ?_) (fun hb => ?_) <;> try (exfalso; omega))) | (refine k_l ?_; refine g_l rfl ?_) | (refine k_i ?_; refine g_i rfl rfl ?_))
      | refine a_n ?_
      | (refine k_V ?_; first | refine v_seq ?_ | refine v_reg ?_ | refine v_bs ?_ | refine v_ret ?_ | (refine v_cd rfl (fun hb => ?_) (fun hb => ?_) <;> try (exfalso; omega)))
      | refine s_r ?_
      | refine b_r ?_)
    exact fa_q (by simp) (fun _ _ => rfl) rfl
  · rw [if_neg c]
    have hgz : x.H.phase = 2 → x.gray.length = 0 := fun e => by
      cases e2 : x.gray with
      | nil => rfl
      | cons g r => exact absurd ⟨e, by show x.gray ≠ []; rw [e2]; simp⟩ c
    by_cases c2 : x.H.phase = 5 ∧ x.H.hand < x.H.cells.length
    · rw [if_pos c2]
      have c3 := c2.1
      have c4 := c2.2
      repeat' (first
        | (refine k_L ?_; first | refine a_p rfl ?_ | (refine k_g ?_; first | refine a_gy rfl rfl ?_ | refine a_gn rfl rfl ?_ | (refine a_gd rfl (fun hb => ?_) (fun hb => ?_) <;> try (exfalso; omega))) | (refine k_l ?_; refine g_l rfl ?_))
        | refine a_n ?_
        | (refine k_V ?_; first | refine v_seq ?_ | refine v_reg ?_ | refine v_dreg ?_ | refine v_bs ?_ | refine v_ret ?_ | refine v_cf rfl ?_ | (refine v_cd rfl (fun hb => ?_) (fun hb => ?_) <;> try (exfalso; omega)))
        | refine s_r ?_
        | refine b_r ?_)
      all_goals exact fa_q (by simp) (fun _ _ => rfl) rfl
    · rw [if_neg c2]
      have c5 : x.H.phase = 5 → ¬ x.H.hand < x.H.cells.length := fun a b => c2 ⟨a, b⟩
      repeat' (first
        | (refine k_L ?_; first | refine a_p rfl ?_ | (refine k_g ?_; first | refine a_gy rfl rfl ?_ | refine a_gn rfl rfl ?_ | (refine a_gd rfl (fun hb => ?_) (fun hb => ?_) <;> try (exfalso; omega))) | (refine k_l ?_; refine g_l rfl ?_))
        | refine a_n ?_
        | (refine k_V ?_; first | refine v_rv ?_ | refine v_seq ?_ | refine v_reg ?_ | refine v_dreg ?_ | refine v_bs ?_ | refine v_skip ?_ | refine v_cf rfl ?_ | (refine v_cd rfl (fun hb => ?_) (fun hb => ?_) <;> try (exfalso; omega))))
      all_goals exact fa_q (by simp) (fun _ _ => rfl) rfl
theorem l4scanned_q {m : Mem} {a : Nat} {x : HX} (h : Has m (hp a x)) : Qt Try.prog 174 [ptr a] m (.int .i64 x.H.walkedI) := by
  refine qt_of (fnA_of (fun h => fn174 (by simp) h) ?_)
  have hnc : x.hdr.nc = x.xs.length := rfl
  have hng : x.hdr.ng = x.gray.length := rfl
  have hl := x.len
  have hp0 : x.hdr.phase = x.H.phase := rfl
  have hh0 : x.hdr.hand = x.H.hand := rfl
  have hlen := h.lens
  unfold Heap.walkedI
  by_cases c : x.H.phase = 2 ∧ x.H.gray ≠ []
  · rw [if_pos c]
    obtain ⟨g, r, hg⟩ : ∃ g r, x.gray = g :: r := by
      cases e : x.gray with
      | nil => exact absurd (show x.H.gray = [] from e) c.2
      | cons g r => exact ⟨g, r, rfl⟩
    have hgl : x.gray.length = r.length + 1 := by rw [hg]; rfl
    have gg : x.gray[(0 : Int).toNat]? = some g := by rw [hg]; rfl
    have c1 := c.1
    have e1 : x.H.gray.headD 0 = g := by show x.gray.headD 0 = g; rw [hg]; rfl
    rw [e1]
    repeat' (first
      | (refine k_L ?_; first | refine a_p rfl ?_ | (refine k_g ?_; first | refine a_gy rfl rfl ?_ | (refine a_gd rfl (fun hb => ?_) (fun hb => ?_) <;> try (exfalso; omega))) | (refine k_l ?_; refine g_l rfl ?_) | (refine k_i ?_; refine g_i rfl rfl ?_))
      | refine a_n ?_
      | (refine k_V ?_; first | refine v_seq ?_ | refine v_reg ?_ | refine v_ret ?_ | (refine v_cd rfl (fun hb => ?_) (fun hb => ?_) <;> try (exfalso; omega)))
      | refine s_r ?_)
    exact fa_q (by simp) (fun _ _ => rfl) rfl
  · rw [if_neg c]
    have hgz : x.H.phase = 2 → x.gray.length = 0 := fun e => by
      cases e2 : x.gray with
      | nil => rfl
      | cons g r => exact absurd ⟨e, by show x.gray ≠ []; rw [e2]; simp⟩ c
    by_cases c2 : x.H.phase = 5 ∧ x.H.hand < x.H.cells.length
    · rw [if_pos c2]
      have c3 := c2.1
      have c4 := c2.2
      repeat' (first
        | (refine k_L ?_; first | refine a_p rfl ?_ | (refine k_g ?_; first | refine a_gy rfl rfl ?_ | refine a_gn rfl rfl ?_ | (refine a_gd rfl (fun hb => ?_) (fun hb => ?_) <;> try (exfalso; omega))) | (refine k_l ?_; refine g_l rfl ?_))
        | refine a_n ?_
        | (refine k_V ?_; first | refine v_seq ?_ | refine v_reg ?_ | refine v_dreg ?_ | refine v_ret ?_ | refine v_skip ?_ | refine v_cf rfl ?_ | (refine v_cd rfl (fun hb => ?_) (fun hb => ?_) <;> try (exfalso; omega)))
        | refine s_r ?_)
      all_goals exact fa_q (by simp) (fun _ _ => rfl) rfl
    · rw [if_neg c2]
      have c5 : x.H.phase = 5 → ¬ x.H.hand < x.H.cells.length := fun a b => c2 ⟨a, b⟩
      repeat' (first
        | (refine k_L ?_; first | refine a_p rfl ?_ | (refine k_g ?_; first | refine a_gy rfl rfl ?_ | refine a_gn rfl rfl ?_ | (refine a_gd rfl (fun hb => ?_) (fun hb => ?_) <;> try (exfalso; omega))) | (refine k_l ?_; refine g_l rfl ?_))
        | refine a_n ?_
        | (refine k_V ?_; first | refine v_rv ?_ | refine v_seq ?_ | refine v_reg ?_ | refine v_dreg ?_ | refine v_skip ?_ | refine v_cf rfl ?_ | (refine v_cd rfl (fun hb => ?_) (fun hb => ?_) <;> try (exfalso; omega))))
      all_goals exact fa_q (by simp) (fun _ _ => rfl) rfl
end Go.Proofs.Ytcmllambknfleaa.E
set_option linter.unusedVariables false
set_option linter.unusedSimpArgs false
set_option maxHeartbeats 8000000
set_option maxRecDepth 100000
namespace Go.Proofs.Ytcmllambknfleaa.E
open Go
open Classical
theorem like_us {H K : Heap} (h : Like H K) (u s : Int) : Like H { K with used := u, sub := s } := ⟨h.len, h.cell, h.regs, h.gray, h.phase, h.hand, h.room, h.born, h.per, h.start, h.rounds, h.forced⟩
theorem keyw_no {c : Cell} (h : IntKind.i64.wrap (BitVec.ofInt IntKind.i64.bits c.weak &&& BitVec.ofInt IntKind.i64.bits 1).toNat ≠ 0) : ¬ KeyW c := h
theorem keyw_yes {c : Cell} (h : IntKind.i64.wrap (BitVec.ofInt IntKind.i64.bits c.weak &&& BitVec.ofInt IntKind.i64.bits 1).toNat = 0) : KeyW c := h
theorem valw_no {c : Cell} (h : IntKind.i64.wrap (BitVec.ofInt IntKind.i64.bits c.weak &&& BitVec.ofInt IntKind.i64.bits 2).toNat ≠ 0) : ¬ ValW c := h
theorem valw_yes {c : Cell} (h : IntKind.i64.wrap (BitVec.ofInt IntKind.i64.bits c.weak &&& BitVec.ofInt IntKind.i64.bits 2).toNat = 0) : ValW c := h
abbrev stR (H : Heap) (a b1 b2 : Nat) (sd : D) : List Asr := [bx b1 [ptr a], bx b2 [.slice sd.a (heldL H).length sd.cap], slA 1 bv sd (heldL H)]
abbrev lostV (b1 b2 : Nat) : Value := .func (.func 159) #[] #[ptr b1, ptr b2]
/-- cell i's first k pairs gone through -/
noncomputable def HX.ck (z : HX) (H : Heap) (c : Cell) (i k : Nat) : HX := { z with used := z.used - nGone H c (c.pairs.take k), sub := if H.walkedI = i then z.sub - nGone H c (c.pairs.take (min k z.sub.toNat)) else z.sub }
theorem ck_0 (z : HX) (H : Heap) (c : Cell) (i : Nat) : z.ck H c i 0 = z := by
  unfold HX.ck
  have e : nGone H c (c.pairs.take 0) = 0 := rfl
  rw [Nat.zero_min, e]
  simp
theorem take_s {c : Cell} {k : Nat} {p : Pair} (hp : c.pairs[k]? = some p) : c.pairs.take (k + 1) = c.pairs.take k ++ [p] := by rw [List.take_add_one, hp]; rfl
theorem ck_keep {z : HX} {H : Heap} {c : Cell} {i k : Nat} {p : Pair} (hp : c.pairs[k]? = some p) (hg : ¬ GoneP H c p) : z.ck H c i (k + 1) = z.ck H c i k := by
  unfold HX.ck
  have e1 : nGone H c (c.pairs.take (k + 1)) = nGone H c (c.pairs.take k) := by rw [take_s hp, nGone_app, nGone_one, if_neg hg]; rfl
  have e2 : nGone H c (c.pairs.take (min (k + 1) z.sub.toNat)) = nGone H c (c.pairs.take (min k z.sub.toNat)) := by
    by_cases h : k < z.sub.toNat
    · rw [Nat.min_eq_left (by omega), Nat.min_eq_left (by omega), e1]
    · rw [Nat.min_eq_right (by omega), Nat.min_eq_right (by omega)]
  rw [e1, e2]
theorem ck_gone {z : HX} {H : Heap} {c : Cell} {i k : Nat} {p : Pair} (hp : c.pairs[k]? = some p) (hg : GoneP H c p) : z.ck H c i (k + 1) = { z.ck H c i k with used := (z.ck H c i k).used - 1, sub := if H.walkedI = i ∧ (k : Int) < z.sub then (z.ck H c i k).sub - 1 else (z.ck H c i k).sub } := by
  have e1 : nGone H c (c.pairs.take (k + 1)) = nGone H c (c.pairs.take k) + 1 := by rw [take_s hp, nGone_app, nGone_one, if_pos hg]
  have hu : (z.ck H c i (k + 1)).used = (z.ck H c i k).used - 1 := by
    show z.used - (nGone H c (c.pairs.take (k + 1)) : Nat) = z.used - (nGone H c (c.pairs.take k) : Nat) - 1
    rw [e1]; omega
  have hs : (z.ck H c i (k + 1)).sub = if H.walkedI = i ∧ (k : Int) < z.sub then (z.ck H c i k).sub - 1 else (z.ck H c i k).sub := by
    show (if H.walkedI = i then z.sub - (nGone H c (c.pairs.take (min (k + 1) z.sub.toNat)) : Nat) else z.sub) = if H.walkedI = i ∧ (k : Int) < z.sub then (if H.walkedI = i then z.sub - (nGone H c (c.pairs.take (min k z.sub.toNat)) : Nat) else z.sub) - 1 else (if H.walkedI = i then z.sub - (nGone H c (c.pairs.take (min k z.sub.toNat)) : Nat) else z.sub)
    by_cases hw : H.walkedI = i
    · by_cases h : (k : Int) < z.sub
      · have m1 : min (k + 1) z.sub.toNat = k + 1 := by omega
        have m2 : min k z.sub.toNat = k := by omega
        rw [m1, m2, e1]
        simp only [hw, h, and_self, if_true]
        omega
      · have m1 : min (k + 1) z.sub.toNat = z.sub.toNat := by omega
        have m2 : min k z.sub.toNat = z.sub.toNat := by omega
        rw [m1, m2]
        simp only [hw, h, and_false, if_true, if_false]
    · simp only [hw, false_and, if_false]
  show ({ z with used := (z.ck H c i (k + 1)).used, sub := (z.ck H c i (k + 1)).sub } : HX) = _
  rw [hu, hs]
  rfl
theorem like_ck {H : Heap} {z : HX} {c : Cell} {i k : Nat} (h : Like H z.H) : Like H (z.ck H c i k).H := like_us h _ _
theorem settle_a {a : Nat} {x : HX} (h : Sound x.H) : FnA Try.prog 124 [ptr a] (hp a x) (fun v As => ∃ z : HX, v = .tuple #[.int .i64 (g1 x.H x.H.cells.length : Nat), .int .i64 (d2 x.H x.H.cells.length : Nat)] ∧ As = hp a z ∧ z.H = x.H.settleH) := by
  obtain ⟨q1, q2, q3⟩ := sound_gray h
  have hl := x.len
  have hnc : x.hdr.nc = x.xs.length := rfl
  have h2 := h.r2
  have hrm := h.r1.room
  have hsb := h.r1.sub
  have hus := h.r3
  have hun := pairsN_units h2
  have hpn := pairsN_nonneg x.H.cells
  unfold R3 at hus
  have hln := heldL_len x.H
  refine fnA_of (fun h => fn124 (by simp) h) ?_
  repeat' (first
    | (refine k_L ?_; first | refine a_p rfl ?_ | (refine k_l ?_; refine g_l rfl ?_) | (refine a_nw (vs := [ptr a]) rfl rfl (fun b1 => ?_)) | (refine g_c rfl (fna_ro (q := fun v E => ∃ sd : D, v = .slice sd.a (heldL x.H).length sd.cap ∧ E = [slA 1 bv sd (heldL x.H)]) (Bs := hp a x) (fun m hm => (holds_a (has_star hm) h.r1 h.r2 h.r4).mono (fun v As ⟨sd, e1, e2⟩ => ⟨_, ⟨sd, e1, rfl⟩, e2⟩))) (fun v As' hq => ?_); obtain ⟨_, ⟨sd, rfl, rfl⟩, rfl⟩ := hq))
    | refine a_n ?_
    | (refine k_V ?_; first | refine v_seq ?_ | refine v_reg ?_))
  refine a_nz (fun b2 => ?_)
  repeat' (first
    | (refine k_L ?_; first | refine a_p rfl ?_ | (refine k_l ?_; refine g_l rfl ?_) | (refine g_sb rfl rfl rfl rfl ?_))
    | refine a_n ?_
    | (refine k_V ?_; first | refine v_seq ?_ | refine v_reg ?_)
    | refine s_n ?_)
  refine g_range x.xs.length (fun q : HX × Nat => [(1, .v (ptr b1)), (2, .v (.int .i64 q.2)), (3, .v (.int .i64 0)), (4, .v (ptr b2)), (5, .v (lostV b1 b2))]) (fun q => hp a q.1 ++ stR x.H a b1 b2 sd) (fun i q => q.1.H = p1 x.H i ∧ q.2 = g1 x.H i) ((x, 0) : HX × Nat) ⟨rfl, rfl⟩ (fun i q hi hv => ?_) (fun q hv => ?_)
  · obtain ⟨z, g⟩ := q
    obtain ⟨hz, hg⟩ := hv
    simp only at hz hg
    subst hg
    dsimp only
    obtain ⟨lk, lc, lla, lu, ls1, ls2⟩ := p1_ok x.H i (by omega)
    rw [← hz] at lk lc lla lu ls1 ls2
    have hzl := z.len
    have hzn : z.hdr.nc = z.xs.length := rfl
    have hzx : z.xs.length = x.xs.length := by rw [← hzl, lk.len, hl]
    obtain ⟨y, gy, gyc⟩ := HX.at (x := z) (i := i) (by omega)
    have gk := HX.gc gy
    have gx : x.H.getC i = y.c := by rw [← lc i (Nat.le_refl _)]; exact gk
    have gxs := getL_some (cs := x.H.cells) (j := i) (by omega) (by omega)
    rw [Int.toNat_natCast, ← getC_L, gx] at gxs
    have hpl := h2.pl (List.mem_of_getElem? gxs)
    have hg1 := g1_le h2 i
    have hzu : z.used = x.H.used - g1 x.H i := lu
    have hzs1 : x.H.sub - g1 x.H i ≤ z.sub := ls1
    have hzs2 : z.sub ≤ x.H.sub := ls2
    have hgi := heldL_get (H := x.H) (j := i) (by omega)
    have eg : g1 x.H (i + 1) = if Held x.H i then g1 x.H i + nGone x.H y.c y.c.pairs else g1 x.H i := by show (if _ then _ else _) = _; rw [gx]
    have ep : p1 x.H (i + 1) = if Held x.H i then x.H.cutC z.H i else z.H := by show (if _ then _ else _) = _; rw [hz]
    have gy' : z.xs[(i : Int).toNat]? = some y := gy
    by_cases hh : Held x.H i
    · rw [decide_eq_true hh] at hgi
      rw [if_pos hh] at eg ep
      have hgi' : (heldL x.H)[(i : Int).toNat]? = some true := hgi
      repeat' (first
        | (refine k_L ?_; first | refine a_p rfl ?_ | (refine k_l ?_; refine g_l rfl ?_) | (refine k_i ?_; refine g_i rfl rfl ?_))
        | refine a_n ?_
        | (refine k_V ?_; first | refine v_seq ?_ | refine v_reg ?_ | refine v_skip ?_ | refine v_cf rfl ?_)
        | refine s_n ?_)
      refine VA.ent (ent_new (f := pv) (size := 6)) ?_
      refine g_range y.c.pairs.length (fun q : (List Pair × D) × Nat => [(2, .v (.int .i64 (g1 x.H i + nGone x.H y.c (y.c.pairs.take q.2) : Nat))), (8, .v (.slice q.1.2.a q.1.1.length q.1.2.cap)), (1, .v (ptr b1)), (3, .v (.int .i64 0)), (4, .v (ptr b2)), (5, .v (lostV b1 b2)), (6, .v (.int .i64 i)), (7, .v (.pointer (some ⟨z.cd.b, z.cd.o + i * 8, none⟩))), (9, .v (.int .i64 z.sub)), (43, .v (.slice y.d.a y.c.pairs.length y.d.cap)), (22, .v (.int .i64 i)), (21, .v (.int .i64 x.xs.length))]) (fun q => slA 6 pv q.1.2 q.1.1 :: (hp a (z.ck x.H y.c i q.2) ++ stR x.H a b1 b2 sd)) (fun k q => q.2 = k ∧ q.1.1 = kept x.H y.c (y.c.pairs.take k)) ((([], ⟨none, 0⟩), 0) : (List Pair × D) × Nat) ⟨rfl, rfl⟩ (fun k q hk hv => ?_) (fun q hv => ?_) (hent := by
        dsimp only
        rw [ck_0]
        exact Pm.ent (by (fail_if_success apply pm_bad); (repeat (first | exact pm_nil | (apply pm_cons; repeat (first | exact pk_h | apply pk_t)))); fail_if_success focus skip))
      · obtain ⟨⟨ps, kd⟩, k0⟩ := q
        obtain ⟨hk0, hps⟩ := hv
        simp only at hk0 hps
        subst hps; subst hk0
        dsimp only
        obtain ⟨p, gp⟩ : ∃ p, y.c.pairs[k0]? = some p := ⟨_, List.getElem?_eq_getElem hk⟩
        obtain ⟨pf1, pf2, _⟩ := h.r4.pairs i y.c gxs k0 p gp
        have gw := like_ck (z := z) (c := y.c) (i := i) (k := k0) lk
        have hcu : (z.ck x.H y.c i k0).hdr.used = z.used - nGone x.H y.c (y.c.pairs.take k0) := rfl
        have hcs1 : (z.ck x.H y.c i k0).hdr.sub ≤ z.sub ∧ z.sub - 200 ≤ (z.ck x.H y.c i k0).hdr.sub := by
          show (if x.H.walkedI = i then z.sub - (nGone x.H y.c (y.c.pairs.take (min k0 z.sub.toNat)) : Nat) else z.sub) ≤ z.sub ∧ z.sub - 200 ≤ (if x.H.walkedI = i then z.sub - (nGone x.H y.c (y.c.pairs.take (min k0 z.sub.toNat)) : Nat) else z.sub)
          have := nGone_le x.H y.c (y.c.pairs.take (min k0 z.sub.toNat))
          have h3 : (y.c.pairs.take (min k0 z.sub.toNat)).length ≤ y.c.pairs.length := by rw [List.length_take]; omega
          split <;> omega
        have hng : nGone x.H y.c (y.c.pairs.take k0) ≤ 200 := by
          have := nGone_le x.H y.c (y.c.pairs.take k0)
          have h3 : (y.c.pairs.take k0).length ≤ y.c.pairs.length := by rw [List.length_take]; omega
          omega
        have gyk : (z.ck x.H y.c i k0).xs[i]? = some y := gy
        refine v_seq ?_
        repeat' (first
          | (refine k_L ?_; first | refine a_p rfl ?_ | (refine k_i ?_; refine g_i rfl rfl ?_) | (refine k_ls ?_; refine g_ls rfl ?_) | (refine k_st ?_; refine g_sw rfl rfl rfl rfl (Nat.le_of_ble_eq_true rfl) ?_) | (refine k_al ?_; refine a_al ?_))
          | refine a_n ?_
          | (refine k_V ?_; refine v_reg ?_)
          | refine s_n ?_
          | refine sk_zero ?_
          | refine sk_succ ?_
          | refine wk_nil ?_
          | refine wk_cons ?_)
        refine v_seq ?_
        refine g_cut (fun _ : Unit => [(75, .v (.bool (decide (GoneP x.H y.c p)))), (10, .v (.int .i64 k0)), (11, .box (pv p)), (45, .v (.int .i64 k0)), (44, .v (.int .i64 y.c.pairs.length)), (2, .v (.int .i64 (g1 x.H i + nGone x.H y.c (y.c.pairs.take k0) : Nat))), (8, .v (.slice kd.a (kept x.H y.c (y.c.pairs.take k0)).length kd.cap)), (1, .v (ptr b1)), (3, .v (.int .i64 0)), (4, .v (ptr b2)), (5, .v (lostV b1 b2)), (6, .v (.int .i64 i)), (7, .v (.pointer (some ⟨z.cd.b, z.cd.o + i * 8, none⟩))), (9, .v (.int .i64 z.sub)), (43, .v (.slice y.d.a y.c.pairs.length y.d.cap)), (22, .v (.int .i64 i)), (21, .v (.int .i64 x.xs.length))]) (fun _ => slA 6 pv kd (kept x.H y.c (y.c.pairs.take k0)) :: (hp a (z.ck x.H y.c i k0) ++ stR x.H a b1 b2 sd)) (fun _ => True) ?_ (fun _ _ => ?_)
        · repeat' (first
            | (refine k_L ?_; first | refine a_p rfl ?_ | (refine k_g ?_; first | refine a_gy rfl rfl ?_ | refine a_gn rfl rfl ?_ | refine a_gu rfl ?_ | (refine a_gd rfl (fun hb => ?_) (fun hb => ?_) <;> try (exfalso; omega)) | (refine a_gne rfl (fun hb => ?_) (fun hb => ?_) <;> try (exfalso; omega))) | (refine k_l ?_; refine g_l rfl ?_) | (refine a_cvq rfl (fnOk_of Try.func159 rfl rfl) rfl (fun m hm => lost_q (z := z.ck x.H y.c i k0) (H := x.H) (sd := sd) (w := p.key) (sep_has hm (by (fail_if_success apply pm_bad); (repeat (first | exact pm_nil | (apply pm_cons; repeat (first | exact pk_h | apply pk_t)))); fail_if_success focus skip)) (sep_has hm (by (fail_if_success apply pm_bad); (repeat (first | exact pm_nil | (apply pm_cons; repeat (first | exact pk_h | apply pk_t)))); fail_if_success focus skip)) h2 gw pf1) ?_) | (refine a_cvq rfl (fnOk_of Try.func159 rfl rfl) rfl (fun m hm => lost_q (z := z.ck x.H y.c i k0) (H := x.H) (sd := sd) (w := p.val) (sep_has hm (by (fail_if_success apply pm_bad); (repeat (first | exact pm_nil | (apply pm_cons; repeat (first | exact pk_h | apply pk_t)))); fail_if_success focus skip)) (sep_has hm (by (fail_if_success apply pm_bad); (repeat (first | exact pm_nil | (apply pm_cons; repeat (first | exact pk_h | apply pk_t)))); fail_if_success focus skip)) h2 gw pf2) ?_))
            | refine a_n ?_
            | (refine k_V ?_; refine v_reg ?_)
            | refine s_n ?_)
          · refine j_i () trivial (hl := ⟨?_, by (repeat (first | exact trivial | refine ⟨rfl, ?_⟩))⟩)
            exact congrArg SV.v (ret_t (.inl ⟨keyw_no (by assumption), by assumption⟩))
          · refine j_i () trivial (hl := ⟨?_, by (repeat (first | exact trivial | refine ⟨rfl, ?_⟩))⟩)
            refine congrArg SV.v (congrArg Value.bool ?_)
            refine decide_eq_decide.2 ⟨fun h => .inr ⟨valw_no (by assumption), h⟩, fun h => ?_⟩
            rcases h with h | h
            · exact absurd h.2 (by assumption)
            · exact h.2
          · refine j_i () trivial (hl := ⟨?_, by (repeat (first | exact trivial | refine ⟨rfl, ?_⟩))⟩)
            refine congrArg SV.v (ret_f fun h => ?_)
            rcases h with h | h
            · exact absurd h.2 (by assumption)
            · exact h.1 (valw_yes (by assumption))
          · refine j_i () trivial (hl := ⟨?_, by (repeat (first | exact trivial | refine ⟨rfl, ?_⟩))⟩)
            refine congrArg SV.v (congrArg Value.bool ?_)
            refine decide_eq_decide.2 ⟨fun h => .inr ⟨valw_no (by assumption), h⟩, fun h => ?_⟩
            rcases h with h | h
            · exact absurd (keyw_yes (by assumption)) h.1
            · exact h.2
          · refine j_i () trivial (hl := ⟨?_, by (repeat (first | exact trivial | refine ⟨rfl, ?_⟩))⟩)
            refine congrArg SV.v (ret_f fun h => ?_)
            rcases h with h | h
            · exact absurd (keyw_yes (by assumption)) h.1
            · exact h.1 (valw_yes (by assumption))
        have hwk := gw.walked
        have hkl : (kept x.H y.c (y.c.pairs.take k0)).length ≤ 200 := by
          have := kept_len x.H y.c (y.c.pairs.take k0)
          have h3 : (y.c.pairs.take k0).length ≤ y.c.pairs.length := by rw [List.length_take]; omega
          omega
        by_cases hG : GoneP x.H y.c p
        · have eck := ck_gone (z := z) (i := i) gp hG
          have et : nGone x.H y.c (y.c.pairs.take (k0 + 1)) = nGone x.H y.c (y.c.pairs.take k0) + 1 := by rw [take_s gp, nGone_app, nGone_one, if_pos hG]
          have ek : kept x.H y.c (y.c.pairs.take (k0 + 1)) = kept x.H y.c (y.c.pairs.take k0) := by rw [take_s gp, kept_app, kept_one, if_pos hG, List.append_nil]
          rw [decide_eq_true hG]
          have hwk1 : Heap.walkedI (HX.H { z.ck x.H y.c i k0 with used := (z.ck x.H y.c i k0).used - 1 }) = x.H.walkedI := hwk
          have hcs3 : ((z.ck x.H y.c i k0).hdr.s_used ((z.ck x.H y.c i k0).hdr.used - 1)).sub = (z.ck x.H y.c i k0).hdr.sub := rfl
          have e2 : ((g1 x.H i + nGone x.H y.c (y.c.pairs.take (k0 + 1)) : Nat) : Int) = ((g1 x.H i + nGone x.H y.c (y.c.pairs.take k0) : Nat) : Int) + 1 := by rw [et]; omega
          repeat' (first
            | (refine k_L ?_; first | (refine k_ad ?_; refine g_ad rfl rfl ?_) | (refine k_su ?_; refine g_su rfl rfl ?_) | refine a_p rfl ?_ | (refine k_g ?_; first | refine a_gy rfl rfl ?_ | refine a_gn rfl rfl ?_ | (refine a_gd rfl (fun hb => ?_) (fun hb => ?_) <;> try (exfalso; omega))) | (refine k_l ?_; refine g_l rfl ?_) | (refine k_st ?_; refine g_st rfl rfl rfl rfl ?_) | (refine k_c ?_; refine a_cq rfl (fun m hm => qt_e (walked_q (x := { z.ck x.H y.c i k0 with used := (z.ck x.H y.c i k0).used - 1 }) (sep_has hm (by (fail_if_success apply pm_bad); (repeat (first | exact pm_nil | (apply pm_cons; repeat (first | exact pk_h | apply pk_t)))); fail_if_success focus skip))) (by rw [hwk1])) ?_))
            | refine a_n ?_
            | (refine k_V ?_; first | refine v_seq ?_ | refine v_reg ?_ | refine v_exit ?_ | refine v_skip ?_ | refine v_ct rfl ?_ | refine v_cf rfl ?_ | (refine v_cd rfl (fun hb => ?_) (fun hb => ?_) <;> try (exfalso; omega)))
            | refine s_e ?_)
          · refine r_ct (((kept x.H y.c (y.c.pairs.take k0), kd), k0 + 1) : (List Pair × D) × Nat) ⟨rfl, ek.symm⟩ (hl := ?_) (he := ?_)
            · dsimp only
              rw [e2]
              repeat (first | exact trivial | refine ⟨rfl, ?_⟩)
            · dsimp only
              rw [eck, if_pos ⟨Eq.symm (by assumption), by assumption⟩]
              exact Pm.ent (by (fail_if_success apply pm_bad); (repeat (first | exact pm_nil | (apply pm_cons; repeat (first | exact pk_h | apply pk_t)))); fail_if_success focus skip)
          · refine r_ct (((kept x.H y.c (y.c.pairs.take k0), kd), k0 + 1) : (List Pair × D) × Nat) ⟨rfl, ek.symm⟩ (hl := ?_) (he := ?_)
            · dsimp only
              rw [e2]
              repeat (first | exact trivial | refine ⟨rfl, ?_⟩)
            · dsimp only
              rw [eck, if_neg (fun h => absurd h.2 (by assumption))]
              exact Pm.ent (by (fail_if_success apply pm_bad); (repeat (first | exact pm_nil | (apply pm_cons; repeat (first | exact pk_h | apply pk_t)))); fail_if_success focus skip)
          · refine r_ct (((kept x.H y.c (y.c.pairs.take k0), kd), k0 + 1) : (List Pair × D) × Nat) ⟨rfl, ek.symm⟩ (hl := ?_) (he := ?_)
            · dsimp only
              rw [e2]
              repeat (first | exact trivial | refine ⟨rfl, ?_⟩)
            · dsimp only
              rw [eck, if_neg (fun h => absurd h.1.symm (by assumption))]
              exact Pm.ent (by (fail_if_success apply pm_bad); (repeat (first | exact pm_nil | (apply pm_cons; repeat (first | exact pk_h | apply pk_t)))); fail_if_success focus skip)
        · have eck := ck_keep (z := z) (i := i) gp hG
          have et : nGone x.H y.c (y.c.pairs.take (k0 + 1)) = nGone x.H y.c (y.c.pairs.take k0) := by rw [take_s gp, nGone_app, nGone_one, if_neg hG]; rfl
          have ek : kept x.H y.c (y.c.pairs.take (k0 + 1)) = kept x.H y.c (y.c.pairs.take k0) ++ [p] := by rw [take_s gp, kept_app, kept_one, if_neg hG]
          rw [decide_eq_false hG]
          repeat' (first
            | (refine k_L ?_; first | refine a_p rfl ?_ | (refine k_bl ?_; refine a_bl rfl ?_))
            | refine a_n ?_
            | (refine k_V ?_; first | refine v_reg ?_ | refine v_skip ?_ | refine v_cf rfl ?_))
          refine g_ap p pv_len rfl rfl rfl (by omega) (fun kd' => ?_)
          repeat' (first
            | (refine k_L ?_; refine a_p rfl ?_)
            | refine a_n ?_)
          refine r_nx (((kept x.H y.c (y.c.pairs.take k0) ++ [p], kd'), k0 + 1) : (List Pair × D) × Nat) ⟨rfl, by rw [ek]⟩ (hl := ?_) (he := ?_)
          · dsimp only
            rw [et]
            repeat (first | exact trivial | refine ⟨rfl, ?_⟩)
          · dsimp only
            rw [eck]
            exact Pm.ent (by (fail_if_success apply pm_bad); (repeat (first | exact pm_nil | (apply pm_cons; repeat (first | exact pk_h | apply pk_t)))); fail_if_success focus skip)
      · obtain ⟨⟨ps, kd⟩, k0⟩ := q
        obtain ⟨hk0, hps⟩ := hv
        simp only at hk0 hps
        subst hps; subst hk0
        dsimp only
        repeat' (first
          | (refine k_L ?_; refine a_p rfl ?_)
          | refine a_n ?_
          | (refine k_V ?_; refine v_reg ?_))
        have gyk : (z.ck x.H y.c i y.c.pairs.length).xs[i]? = some y := gy
        rw [List.take_length]
        refine a_cs (kept x.H y.c y.c.pairs) gyk rfl rfl ?_
        repeat' (first
          | (refine k_L ?_; first | (refine k_ad ?_; refine g_ad rfl rfl ?_) | (refine k_su ?_; refine g_su rfl rfl ?_) | (refine k_ml ?_; refine g_ml rfl rfl ?_) | refine a_p rfl ?_ | (refine k_g ?_; first | refine a_gy rfl rfl ?_ | refine a_gn rfl rfl ?_ | refine a_gu rfl ?_ | (refine a_gd rfl (fun hb => ?_) (fun hb => ?_) <;> try (exfalso; omega)) | (refine a_ge rfl (fun hb => ?_) (fun hb => ?_) <;> try (exfalso; omega)) | (refine a_gne rfl (fun hb => ?_) (fun hb => ?_) <;> try (exfalso; omega)) | (refine a_gnd rfl (fun hb => ?_) (fun hb => ?_) <;> try (exfalso; omega))) | (refine k_l ?_; refine g_l rfl ?_) | (refine k_i ?_; refine g_i rfl rfl ?_) | (refine k_ls ?_; refine g_ls rfl ?_) | (refine k_st ?_; first | refine g_st rfl rfl rfl rfl ?_ | refine g_sw rfl rfl rfl rfl (Nat.le_of_ble_eq_true rfl) ?_) | (refine k_al ?_; refine a_al ?_) | (refine k_bx ?_; refine a_bx rfl rfl ?_) | (refine k_bl ?_; refine a_bl rfl ?_) | (refine k_p ?_; first | (refine a_pd rfl (fun hb => ?_) (fun hb => ?_) <;> try (exfalso; omega)) | (refine a_pe rfl (fun hb => ?_) (fun hb => ?_) <;> try (exfalso; omega)) | (refine a_pne rfl (fun hb => ?_) (fun hb => ?_) <;> try (exfalso; omega)) | (refine a_pnd rfl (fun hb => ?_) (fun hb => ?_) <;> try (exfalso; omega))))
          | refine a_n ?_
          | (refine k_V ?_; first | refine v_rv ?_ | refine v_seq ?_ | refine v_reg ?_ | refine v_dreg ?_ | refine v_zreg ?_ | refine v_bs ?_ | refine v_br ?_ | refine v_bd ?_ | refine v_bc ?_ | refine v_bk ?_ | refine v_bb ?_ | refine v_ret ?_ | refine v_exit ?_ | refine v_skip ?_ | refine v_ct rfl ?_ | refine v_cf rfl ?_ | (refine v_cd rfl (fun hb => ?_) (fun hb => ?_) <;> try (exfalso; omega)) | (refine v_ce rfl (fun hb => ?_) (fun hb => ?_) <;> try (exfalso; omega)) | (refine v_cn rfl (fun hb => ?_) (fun hb => ?_) <;> try (exfalso; omega)) | (refine v_cnd rfl (fun hb => ?_) (fun hb => ?_) <;> try (exfalso; omega)))
          | refine s_n ?_
          | refine s_r ?_
          | refine s_e ?_
          | refine b_n ?_
          | refine b_r ?_
          | refine b_e ?_
          | refine b_o rfl ?_
          | refine r_rt ?_
          | refine r_bk rfl ?_
          | refine r_ex rfl rfl ?_
          | refine sk_zero ?_
          | refine sk_succ ?_
          | refine wk_nil ?_
          | refine wk_cons ?_)
        generalize hZ : ({ z.ck x.H y.c i y.c.pairs.length with xs := z.xs.set i ⟨{ y.c with pairs := kept x.H y.c y.c.pairs }, kd.a, kd.cap⟩ } : HX) = Z
        have hd : (z.ck x.H y.c i y.c.pairs.length).hdr = Z.hdr := by rw [← hZ]; simp [HX.hdr, HX.ck]
        have zH : Z.H = x.H.cutC z.H i := by
          rw [← hZ]
          unfold Heap.cutC
          rw [gk]
          have m1 : y.c.pairs.take (min y.c.pairs.length z.sub.toNat) = y.c.pairs.take z.sub.toNat := by
            rcases Nat.le_total y.c.pairs.length z.sub.toNat with e | e
            · rw [Nat.min_eq_left e, List.take_length, List.take_of_length_le e]
            · rw [Nat.min_eq_right e]
          unfold HX.H HX.ck
          simp only [List.map_set, List.take_length, m1]
        refine r_nx ((Z, g1 x.H (i + 1)) : HX × Nat) ⟨by rw [zH, ep], rfl⟩ (hl := ?_) (he := ?_)
        · dsimp only
          rw [eg]
          repeat (first | exact trivial | refine ⟨rfl, ?_⟩)
        · rw [hd]
          dsimp only
          have e1 : Z.rd = z.rd ∧ Z.regs = z.regs ∧ Z.cd = z.cd ∧ Z.gd = z.gd ∧ Z.gray = z.gray ∧ Z.xs = z.xs.set i ⟨{ y.c with pairs := kept x.H y.c y.c.pairs }, kd.a, kd.cap⟩ := by rw [← hZ]; exact ⟨rfl, rfl, rfl, rfl, rfl, rfl⟩
          show Ent _ ([hdA a Z.hdr, slA 3 wv Z.rd Z.regs, clA Z.cd Z.xs, slA 1 iv Z.gd Z.gray] ++ stR x.H a b1 b2 sd)
          rw [e1.1, e1.2.1, e1.2.2.1, e1.2.2.2.1, e1.2.2.2.2.1, e1.2.2.2.2.2]
          exact Pm.ent (by (fail_if_success apply pm_bad); (repeat (first | exact pm_nil | (apply pm_cons; repeat (first | exact pk_h | apply pk_t)))); fail_if_success focus skip)
    · rw [decide_eq_false hh] at hgi
      rw [if_neg hh] at eg ep
      have hgi' : (heldL x.H)[(i : Int).toNat]? = some false := hgi
      repeat' (first
        | (refine k_L ?_; first | refine a_p rfl ?_ | (refine k_l ?_; refine g_l rfl ?_) | (refine k_i ?_; refine g_i rfl rfl ?_))
        | refine a_n ?_
        | (refine k_V ?_; first | refine v_seq ?_ | refine v_reg ?_ | refine v_exit ?_ | refine v_ct rfl ?_)
        | refine s_e ?_)
      exact r_ct ((z, g1 x.H i) : HX × Nat) ⟨ep.symm, eg.symm⟩
  obtain ⟨z0, g0⟩ := q
  obtain ⟨hz0, hg0⟩ := hv
  simp only at hz0 hg0
  subst hg0
  dsimp only
  obtain ⟨lk0, _, lla0, lu0, _⟩ := p1_ok x.H x.H.cells.length (Nat.le_refl _)
  rw [hl] at lk0 lla0 lu0
  rw [← hz0] at lk0
  have hz0n : z0.hdr.nc = z0.xs.length := rfl
  have hz0l := z0.len
  have hz0x : z0.xs.length = x.xs.length := by rw [← hz0l, lk0.len, hl]
  repeat' (first
    | (refine k_L ?_; first | refine a_p rfl ?_ | (refine k_l ?_; refine g_l rfl ?_))
    | refine a_n ?_
    | (refine k_V ?_; first | refine v_seq ?_ | refine v_reg ?_)
    | refine s_n ?_)
  refine g_range x.xs.length (fun q : HX × Nat => [(1, .v (ptr b1)), (2, .v (.int .i64 (g1 x.H x.xs.length))), (3, .v (.int .i64 q.2)), (4, .v (ptr b2))]) (fun q => hp a q.1 ++ stR x.H a b1 b2 sd) (fun i q => q.1.H = p2 x.H i ∧ q.2 = d2 x.H i) ((z0, 0) : HX × Nat) ⟨by show z0.H = p1 x.H x.H.cells.length; rw [hz0, hl], rfl⟩ (fun i q hi hv => ?_) (fun q hv => ?_) (hl := by
    have : z0.hdr.nc = x.xs.length := by omega
    rw [this]
    repeat (first | exact trivial | refine ⟨rfl, ?_⟩))
  · obtain ⟨z, d⟩ := q
    obtain ⟨hz, hd⟩ := hv
    simp only at hz hd
    subst hd
    dsimp only
    obtain ⟨lk, lc, _, _, _⟩ := p2_ok x.H i (by omega)
    rw [← hz] at lk lc
    have hzl := z.len
    have hzn : z.hdr.nc = z.xs.length := rfl
    have hzx : z.xs.length = x.xs.length := by rw [← hzl, lk.len, hl]
    obtain ⟨y, gy, gyc⟩ := HX.at (x := z) (i := i) (by omega)
    have gk := HX.gc gy
    have hd2 := d2_le x.H i
    have hlast : y.c.last = (x.H.getC i).last := by rw [← gk, lc i (Nat.le_refl _), hl]; exact lla0 i
    have hst : y.c.state = (x.H.getC i).state := by rw [← gk]; exact (lk.cell i).1
    have gxs := getL_some (cs := x.H.cells) (j := i) (by omega) (by omega)
    rw [Int.toNat_natCast, ← getC_L] at gxs
    have hls : y.c.last = 1 → y.c.state = 1 := fun e => by
      rcases Decidable.em (y.c.state = 1) with e2 | e2
      · exact e2
      · have := (h2.bare gxs (by rw [← hst]; exact e2)).2.2.1
        omega
    have hgi := heldL_get (H := x.H) (j := i) (by omega)
    have ed : d2 x.H (i + 1) = if ¬ Held x.H i ∧ y.c.last = 1 then d2 x.H i + 1 else d2 x.H i := by show (if _ then _ else _) = _; rw [hlast]
    have ep : p2 x.H (i + 1) = if ¬ Held x.H i ∧ y.c.last = 1 then { z.H with cells := z.H.cells.set i { z.H.getC i with last := 2 } } else z.H := by show (if _ then _ else _) = _; rw [hlast, hz]
    have gy' : z.xs[(i : Int).toNat]? = some y := gy
    by_cases hh : Held x.H i
    · rw [decide_eq_true hh] at hgi
      have hgi' : (heldL x.H)[(i : Int).toNat]? = some true := hgi
      rw [if_neg (fun h => h.1 hh)] at ed ep
      repeat' (first
        | (refine k_L ?_; first | refine a_p rfl ?_ | (refine k_g ?_; first | refine a_gy rfl rfl ?_ | refine a_gn rfl rfl ?_ | (refine a_gd rfl (fun hb => ?_) (fun hb => ?_) <;> try (exfalso; omega))) | (refine k_l ?_; refine g_l rfl ?_) | (refine k_i ?_; refine g_i rfl rfl ?_))
        | refine a_n ?_
        | (refine k_V ?_; first | refine v_seq ?_ | refine v_reg ?_ | refine v_skip ?_ | refine v_cf rfl ?_))
      all_goals exact r_nx ((z, d2 x.H i) : HX × Nat) ⟨ep.symm, ed.symm⟩
    · rw [decide_eq_false hh] at hgi
      have hgi' : (heldL x.H)[(i : Int).toNat]? = some false := hgi
      by_cases hl1 : y.c.last = 1
      · have hs1 := hls hl1
        rw [if_pos ⟨hh, hl1⟩] at ed ep
        repeat' (first
          | (refine k_L ?_; first | (refine k_ad ?_; refine g_ad rfl rfl ?_) | refine a_p rfl ?_ | (refine k_g ?_; first | refine a_gy rfl rfl ?_ | (refine a_gd rfl (fun hb => ?_) (fun hb => ?_) <;> try (exfalso; omega))) | (refine k_l ?_; refine g_l rfl ?_) | (refine k_i ?_; refine g_i rfl rfl ?_) | (refine k_st ?_; refine g_st rfl rfl rfl rfl ?_))
          | refine a_n ?_
          | (refine k_V ?_; first | refine v_seq ?_ | refine v_reg ?_ | (refine v_cd rfl (fun hb => ?_) (fun hb => ?_) <;> try (exfalso; omega))))
        generalize hZ : ({ z with xs := z.xs.set i (y.s_last 2) } : HX) = Z
        have hdr : z.hdr = Z.hdr := by rw [← hZ]; simp [HX.hdr]
        have zH : Z.H = p2 x.H (i + 1) := by
          rw [← hZ, ep, gk]
          unfold HX.H
          simp only [List.map_set]
          rfl
        refine r_nx ((Z, d2 x.H (i + 1)) : HX × Nat) ⟨zH, rfl⟩ (hl := ?_) (he := ?_)
        · dsimp only
          rw [ed]
          repeat (first | exact trivial | refine ⟨rfl, ?_⟩)
        · rw [hdr]
          dsimp only
          have e1 : Z.rd = z.rd ∧ Z.regs = z.regs ∧ Z.cd = z.cd ∧ Z.gd = z.gd ∧ Z.gray = z.gray ∧ Z.xs = z.xs.set i (y.s_last 2) := by rw [← hZ]; exact ⟨rfl, rfl, rfl, rfl, rfl, rfl⟩
          show Ent _ ([hdA a Z.hdr, slA 3 wv Z.rd Z.regs, clA Z.cd Z.xs, slA 1 iv Z.gd Z.gray] ++ stR x.H a b1 b2 sd)
          rw [e1.1, e1.2.1, e1.2.2.1, e1.2.2.2.1, e1.2.2.2.2.1, e1.2.2.2.2.2]
          exact Pm.ent (by (fail_if_success apply pm_bad); (repeat (first | exact pm_nil | (apply pm_cons; repeat (first | exact pk_h | apply pk_t)))); fail_if_success focus skip)
      · rw [if_neg (fun h => hl1 h.2)] at ed ep
        repeat' (first
          | (refine k_L ?_; first | refine a_p rfl ?_ | (refine k_g ?_; first | refine a_gy rfl rfl ?_ | refine a_gn rfl rfl ?_ | (refine a_gd rfl (fun hb => ?_) (fun hb => ?_) <;> try (exfalso; omega))) | (refine k_l ?_; refine g_l rfl ?_) | (refine k_i ?_; refine g_i rfl rfl ?_))
          | refine a_n ?_
          | (refine k_V ?_; first | refine v_seq ?_ | refine v_reg ?_ | refine v_skip ?_ | refine v_cf rfl ?_ | (refine v_cd rfl (fun hb => ?_) (fun hb => ?_) <;> try (exfalso; omega))))
        all_goals exact r_nx ((z, d2 x.H i) : HX × Nat) ⟨ep.symm, ed.symm⟩
  · obtain ⟨z, d⟩ := q
    obtain ⟨hz, hd⟩ := hv
    simp only at hz hd
    subst hd
    dsimp only
    repeat' (first
      | (refine k_L ?_; refine a_p rfl ?_)
      | refine a_n ?_
      | (refine k_V ?_; first | refine v_seq ?_ | refine v_reg ?_ | refine v_ret ?_))
    refine fa_r (As' := hp a z) (fun _ _ => rfl) (Pm.ent (by (fail_if_success apply pm_bad); (repeat (first | exact pm_nil | (apply pm_cons; repeat (first | exact pk_h | apply pk_t)))); fail_if_success focus skip)) ⟨z, ?_, rfl, ?_⟩
    · rw [hl]
    · unfold Heap.settleH
      rw [hz, hl]
end Go.Proofs.Ytcmllambknfleaa.E
set_option linter.unusedVariables false
set_option linter.unusedSimpArgs false
set_option maxHeartbeats 8000000
set_option maxRecDepth 100000
namespace Go.Proofs.Ytcmllambknfleaa.E
open Go
open Classical
theorem erase_snoc {α : Type} {l : List α} {p : α} {k : Nat} : (l ++ [p]).eraseIdx k = if l.length = k then l else l.eraseIdx k ++ (if k < l.length then [p] else [p]) := by
  by_cases h : k < l.length
  · rw [if_neg (by omega), if_pos h, List.eraseIdx_append_of_lt_length h]
  · rw [List.eraseIdx_append_of_length_le (by omega)]
    by_cases e : l.length = k
    · rw [if_pos e, e, Nat.sub_self]; simp
    · rw [if_neg e, if_neg h, List.eraseIdx_of_length_le (l := l) (by omega), List.eraseIdx_of_length_le (by simp; omega)]
theorem l4cut_a {a : Nat} {z : HX} {i k : Nat} {y : CS} (gy : z.xs[i]? = some y) (hk : k < y.c.pairs.length) (hpl : y.c.pairs.length ≤ 200) (hu : -1000000000 ≤ z.used ∧ z.used ≤ 1000000000) (hs : -1000000000 ≤ z.sub ∧ z.sub ≤ 1000000000) (hn : z.xs.length ≤ 8000) :
    FnA Try.prog 158 [ptr a, .int .i64 i, .int .i64 k] (hp a z) (fun v As => ∃ u : HX, As = hp a u ∧ u.rd = z.rd ∧ u.H = { z.H with cells := z.H.cells.set i { y.c with pairs := y.c.pairs.eraseIdx k }, used := z.used - 1, sub := if (k : Int) < z.sub ∧ z.H.walkedI = i then z.sub - 1 else z.sub }) := by
  refine fnA_of (fun h => fn158 (by simp) h) ?_
  have hnc : z.hdr.nc = z.xs.length := rfl
  have hlt := (List.getElem?_eq_some_iff.1 gy).1
  have gy' : z.xs[(i : Int).toNat]? = some y := gy
  have hud : z.hdr.used = z.used := rfl
  have hsd : z.hdr.sub = z.sub := rfl
  repeat' (first
    | (refine k_L ?_; first | refine a_p rfl ?_ | (refine k_l ?_; refine g_l rfl ?_) | (refine k_i ?_; refine g_i rfl rfl ?_))
    | refine a_n ?_
    | (refine k_V ?_; first | refine v_seq ?_ | refine v_reg ?_)
    | refine s_n ?_)
  refine VA.ent (ent_new (f := pv) (size := 6)) ?_
  refine g_range y.c.pairs.length (fun q : List Pair × D => [(0, .v (ptr a)), (1, .v (.int .i64 i)), (2, .v (.int .i64 k)), (6, .v (.slice q.2.a q.1.length q.2.cap)), (16, .v (.slice y.d.a y.c.pairs.length y.d.cap))]) (fun q => slA 6 pv q.2 q.1 :: hp a z) (fun j q => q.1 = (y.c.pairs.take j).eraseIdx k) (([], ⟨none, 0⟩) : List Pair × D) rfl (fun j q hj hv => ?_) (fun q hv => ?_)
  · obtain ⟨ps, d⟩ := q
    simp only at hv
    subst hv
    obtain ⟨p, gp⟩ : ∃ p, y.c.pairs[j]? = some p := ⟨_, List.getElem?_eq_getElem hj⟩
    have hjl : (y.c.pairs.take j).length = j := by rw [List.length_take]; omega
    have hel : ((y.c.pairs.take j).eraseIdx k).length ≤ 200 := by
      have : ((y.c.pairs.take j).eraseIdx k).length ≤ (y.c.pairs.take j).length := (List.eraseIdx_sublist _ _).length_le
      omega
    have es : (y.c.pairs.take (j + 1)).eraseIdx k = if j = k then y.c.pairs.take j else (y.c.pairs.take j).eraseIdx k ++ [p] := by
      rw [List.take_add_one, gp]
      show (y.c.pairs.take j ++ [p]).eraseIdx k = _
      rw [erase_snoc, hjl]
      by_cases e : j = k
      · rw [if_pos e, if_pos e]
      · rw [if_neg e, if_neg e]; split <;> rfl
    dsimp only
    by_cases ejk : j = k
    · have e1 : (y.c.pairs.take j).eraseIdx k = y.c.pairs.take j := List.eraseIdx_of_length_le (by omega)
      rw [if_pos ejk, ← e1] at es
      repeat' (first
        | (refine k_L ?_; first | refine a_p rfl ?_ | (refine k_i ?_; refine g_i rfl rfl ?_) | (refine k_ls ?_; refine g_ls rfl ?_) | (refine k_st ?_; refine g_sw rfl rfl rfl rfl (Nat.le_of_ble_eq_true rfl) ?_) | (refine k_al ?_; refine a_al ?_))
        | refine a_n ?_
        | (refine k_V ?_; first | refine v_seq ?_ | refine v_reg ?_ | refine v_skip ?_ | (refine v_cn rfl (fun hb => ?_) (fun hb => ?_) <;> try (exfalso; omega)))
        | refine sk_zero ?_
        | refine sk_succ ?_
        | refine wk_nil ?_
        | refine wk_cons ?_)
      exact r_nx (((y.c.pairs.take j).eraseIdx k, d) : List Pair × D) es.symm
    · rw [if_neg ejk] at es
      repeat' (first
        | (refine k_L ?_; first | refine a_p rfl ?_ | (refine k_i ?_; refine g_i rfl rfl ?_) | (refine k_ls ?_; refine g_ls rfl ?_) | (refine k_st ?_; refine g_sw rfl rfl rfl rfl (Nat.le_of_ble_eq_true rfl) ?_) | (refine k_al ?_; refine a_al ?_) | (refine k_bl ?_; refine a_bl rfl ?_))
        | refine a_n ?_
        | (refine k_V ?_; first | refine v_seq ?_ | refine v_reg ?_ | (refine v_cn rfl (fun hb => ?_) (fun hb => ?_) <;> try (exfalso; omega)))
        | refine sk_zero ?_
        | refine sk_succ ?_
        | refine wk_nil ?_
        | refine wk_cons ?_)
      refine g_ap p pv_len rfl rfl rfl (by omega) (fun d' => ?_)
      repeat' (first
        | (refine k_L ?_; refine a_p rfl ?_)
        | refine a_n ?_)
      exact r_nx (((y.c.pairs.take j).eraseIdx k ++ [p], d') : List Pair × D) es.symm
  · obtain ⟨ps, d⟩ := q
    simp only at hv
    rw [List.take_length] at hv
    subst hv
    dsimp only
    generalize hZ : ({ z with xs := z.xs.set i ⟨{ y.c with pairs := y.c.pairs.eraseIdx k }, d.a, d.cap⟩, used := z.used - 1 } : HX) = Z
    have hd : z.hdr.s_used (z.hdr.used - 1) = Z.hdr := by rw [← hZ]; simp [HX.hdr, Hdr.s_used]
    have e1 : Z.rd = z.rd ∧ Z.regs = z.regs ∧ Z.cd = z.cd ∧ Z.gd = z.gd ∧ Z.gray = z.gray ∧ Z.xs = z.xs.set i ⟨{ y.c with pairs := y.c.pairs.eraseIdx k }, d.a, d.cap⟩ := by rw [← hZ]; exact ⟨rfl, rfl, rfl, rfl, rfl, rfl⟩
    have zs : Z.sub = z.sub := by rw [← hZ]
    have zH : Z.H = { z.H with cells := z.H.cells.set i { y.c with pairs := y.c.pairs.eraseIdx k }, used := z.used - 1 } := by
      rw [← hZ]
      unfold HX.H
      simp only [List.map_set]
    have zw : Z.H.walkedI = z.H.walkedI := by
      rw [zH]
      unfold Heap.walkedI
      simp only [List.length_set]
    have pm : ∀ h : Hdr, Ent (clA z.cd (z.xs.set (i : Int).toNat ⟨{ y.c with pairs := y.c.pairs.eraseIdx k }, d.a, d.cap⟩) :: hdA a h :: slA 3 wv z.rd z.regs :: slA 1 iv z.gd z.gray :: []) [hdA a h, slA 3 wv Z.rd Z.regs, clA Z.cd Z.xs, slA 1 iv Z.gd Z.gray] := fun h => by
      rw [e1.1, e1.2.1, e1.2.2.1, e1.2.2.2.1, e1.2.2.2.2.1, e1.2.2.2.2.2]
      exact Pm.ent (by (fail_if_success apply pm_bad); (repeat (first | exact pm_nil | (apply pm_cons; repeat (first | exact pk_h | apply pk_t)))); fail_if_success focus skip)
    repeat' (first
      | (refine k_L ?_; first | (refine k_su ?_; refine g_su rfl rfl ?_) | refine a_p rfl ?_ | (refine k_g ?_; first | refine a_gy rfl rfl ?_ | refine a_gn rfl rfl ?_ | (refine a_gd rfl (fun hb => ?_) (fun hb => ?_) <;> try (exfalso; omega))) | (refine k_l ?_; refine g_l rfl ?_) | (refine k_i ?_; refine g_i rfl rfl ?_) | (refine k_st ?_; refine g_st rfl rfl rfl rfl ?_) | (refine a_cs (y.c.pairs.eraseIdx k) gy' rfl rfl ?_))
      | refine a_n ?_
      | (refine k_V ?_; first | refine v_seq ?_ | refine v_reg ?_ | refine v_skip ?_ | refine v_cf rfl ?_))
    · have hks : (k : Int) < z.sub := by have : (z.hdr.s_used (z.hdr.used - 1)).sub = z.sub := rfl; omega
      rw [hd]
      refine LA.ent (Bs := hp a Z) (pm _) ?_
      have zsd : Z.hdr.sub = z.sub := zs
      repeat' (first
        | (refine k_L ?_; first | (refine k_su ?_; refine g_su rfl rfl ?_) | refine a_p rfl ?_ | (refine k_g ?_; refine a_gy rfl rfl ?_) | (refine k_l ?_; refine g_l rfl ?_) | (refine k_st ?_; refine g_st rfl rfl rfl rfl ?_) | (refine k_c ?_; refine a_cq rfl (fun m hm => qt_e (l4scanned_q (x := Z) (sep_has hm (by (fail_if_success apply pm_bad); (repeat (first | exact pm_nil | (apply pm_cons; repeat (first | exact pk_h | apply pk_t)))); fail_if_success focus skip))) (by rw [zw])) ?_))
        | refine a_n ?_
        | (refine k_V ?_; first | refine v_reg ?_ | refine v_skip ?_ | (refine v_cd rfl (fun hb => ?_) (fun hb => ?_) <;> try (exfalso; omega))))
      · refine fa_n (fun _ _ => rfl) (Pm.ent (fin { Z with sub := Z.sub - 1 })) ⟨_, rfl, e1.1, ?_⟩
        rw [if_pos ⟨hks, by assumption⟩]
        show ({ Z.H with sub := Z.sub - 1 } : Heap) = _
        rw [zH, zs]
      · refine fa_n (fun _ _ => rfl) (Pm.ent (fin Z)) ⟨_, rfl, e1.1, ?_⟩
        rw [if_neg (fun h => absurd h.2 (by assumption)), zH]
        rfl
    · have hks : ¬ (k : Int) < z.sub := by have : (z.hdr.s_used (z.hdr.used - 1)).sub = z.sub := rfl; omega
      rw [hd]
      refine fa_n (fun _ _ => rfl) (pm _) ⟨Z, rfl, e1.1, ?_⟩
      rw [if_neg (fun h => hks h.1), zH]
      rfl
end Go.Proofs.Ytcmllambknfleaa.E
set_option linter.unusedVariables false
set_option linter.unusedSimpArgs false
set_option maxHeartbeats 8000000
set_option maxRecDepth 100000
namespace Go.Proofs.Ytcmllambknfleaa.E
open Go
open Classical
theorem wand1 (x : BitVec IntKind.i64.bits) : 0 ≤ IntKind.i64.wrap ((x &&& BitVec.ofInt IntKind.i64.bits 1).toNat : Int) := by
  have h : (x &&& BitVec.ofInt IntKind.i64.bits 1).toNat ≤ 1 := by
    rw [BitVec.toNat_and]; exact Nat.and_le_right
  generalize (x &&& BitVec.ofInt IntKind.i64.bits 1).toNat = n at *
  rcases (by omega : n = 0 ∨ n = 1) with rfl | rfl <;> decide
theorem wand2 (x : BitVec IntKind.i64.bits) : 0 ≤ IntKind.i64.wrap ((x &&& BitVec.ofInt IntKind.i64.bits 2).toNat : Int) := by
  have h : (x &&& BitVec.ofInt IntKind.i64.bits 2).toNat ≤ 2 := by
    rw [BitVec.toNat_and]; exact Nat.and_le_right
  generalize (x &&& BitVec.ofInt IntKind.i64.bits 2).toNat = n at *
  rcases (by omega : n = 0 ∨ n = 1 ∨ n = 2) with rfl | rfl | rfl <;> decide
theorem keyw_pos {c : Cell} : IntKind.i64.wrap (BitVec.ofInt IntKind.i64.bits c.weak &&& BitVec.ofInt IntKind.i64.bits 1).toNat > 0 ↔ ¬ KeyW c := by
  have := wand1 (BitVec.ofInt IntKind.i64.bits c.weak)
  unfold KeyW
  omega
theorem valw_pos {c : Cell} : IntKind.i64.wrap (BitVec.ofInt IntKind.i64.bits c.weak &&& BitVec.ofInt IntKind.i64.bits 2).toNat > 0 ↔ ¬ ValW c := by
  have := wand2 (BitVec.ofInt IntKind.i64.bits c.weak)
  unfold ValW
  omega
/-- cell i gone through from its end down to its first k pairs -/
noncomputable def Heap.dk (K H : Heap) (c : Cell) (i k : Nat) : Heap := { K with cells := K.cells.set i { c with pairs := c.pairs.take k ++ kept H c (c.pairs.drop k) }, used := K.used - nGone H c (c.pairs.drop k), sub := if H.walkedI = i then K.sub - nGone H c ((c.pairs.take K.sub.toNat).drop k) else K.sub }
theorem set_same {l : List Cell} {i : Nat} {c : Cell} (h : l[i]? = some c) : l.set i c = l := by
  apply List.ext_getElem?
  intro j
  rw [List.getElem?_set]
  split
  · rename_i e; subst e
    rw [if_pos (List.getElem?_eq_some_iff.1 h).1, h]
  · rfl
theorem dk_top {K H : Heap} {c : Cell} {i : Nat} (h : K.cells[i]? = some c) : K.dk H c i c.pairs.length = K := by
  unfold Heap.dk
  have e0 : nGone H c [] = 0 := rfl
  have e1 : (c.pairs.take K.sub.toNat).drop c.pairs.length = [] := List.drop_eq_nil_of_le (by rw [List.length_take]; omega)
  rw [List.take_length, List.drop_length, kept_nil, List.append_nil, e1, e0]
  have e2 : ({ c with pairs := c.pairs } : Cell) = c := rfl
  rw [e2, set_same h]
  simp
theorem dk_bot {K H : Heap} {c : Cell} {i : Nat} (h : K.getC i = c) : K.dk H c i 0 = H.cutC K i := by
  unfold Heap.dk Heap.cutC
  rw [h, List.take_zero, List.drop_zero, List.nil_append, List.drop_zero]
theorem drop_s {c : Cell} {k : Nat} {p : Pair} (hp : c.pairs[k]? = some p) : c.pairs.drop k = [p] ++ c.pairs.drop (k + 1) := by
  have h := List.getElem?_eq_some_iff.1 hp
  rw [List.drop_eq_getElem_cons h.1, h.2]; rfl
theorem dk_keep {K H : Heap} {c : Cell} {i k : Nat} {p : Pair} (hp : c.pairs[k]? = some p) (hg : ¬ GoneP H c p) : K.dk H c i k = K.dk H c i (k + 1) := by
  unfold Heap.dk
  have e1 : c.pairs.take k ++ kept H c (c.pairs.drop k) = c.pairs.take (k + 1) ++ kept H c (c.pairs.drop (k + 1)) := by
    rw [drop_s hp, kept_app, kept_one, if_neg hg, take_s hp, List.append_assoc]
  have e2 : nGone H c (c.pairs.drop k) = nGone H c (c.pairs.drop (k + 1)) := by rw [drop_s hp, nGone_app, nGone_one, if_neg hg]; omega
  have e3 : nGone H c ((c.pairs.take K.sub.toNat).drop k) = nGone H c ((c.pairs.take K.sub.toNat).drop (k + 1)) := by
    by_cases h : k < K.sub.toNat
    · have hp' : (c.pairs.take K.sub.toNat)[k]? = some p := by rw [List.getElem?_take, if_pos h]; exact hp
      have h' := List.getElem?_eq_some_iff.1 hp'
      rw [List.drop_eq_getElem_cons h'.1, h'.2]
      have : p :: (c.pairs.take K.sub.toNat).drop (k + 1) = [p] ++ (c.pairs.take K.sub.toNat).drop (k + 1) := rfl
      rw [this, nGone_app, nGone_one, if_neg hg]; omega
    · rw [List.drop_eq_nil_of_le (by rw [List.length_take]; omega), List.drop_eq_nil_of_le (by rw [List.length_take]; omega)]
  rw [e1, e2, e3]
theorem dk_gone {K H : Heap} {c : Cell} {i k : Nat} {p : Pair} (hi : i < K.cells.length) (hp : c.pairs[k]? = some p) (hg : GoneP H c p) :
    K.dk H c i k = { K.dk H c i (k + 1) with cells := (K.dk H c i (k + 1)).cells.set i { c with pairs := (c.pairs.take (k + 1) ++ kept H c (c.pairs.drop (k + 1))).eraseIdx k }, used := (K.dk H c i (k + 1)).used - 1, sub := if (k : Int) < (K.dk H c i (k + 1)).sub ∧ H.walkedI = i then (K.dk H c i (k + 1)).sub - 1 else (K.dk H c i (k + 1)).sub } := by
  have hkl := (List.getElem?_eq_some_iff.1 hp).1
  have e1 : c.pairs.take k ++ kept H c (c.pairs.drop k) = (c.pairs.take (k + 1) ++ kept H c (c.pairs.drop (k + 1))).eraseIdx k := by
    rw [drop_s hp, kept_app, kept_one, if_pos hg, take_s hp, List.append_assoc, List.eraseIdx_append_of_length_le (by rw [List.length_take]; omega)]
    have : k - (c.pairs.take k).length = 0 := by rw [List.length_take]; omega
    rw [this]; rfl
  have e2 : nGone H c (c.pairs.drop k) = nGone H c (c.pairs.drop (k + 1)) + 1 := by rw [drop_s hp, nGone_app, nGone_one, if_pos hg]; omega
  have e3 : (if H.walkedI = i then K.sub - (nGone H c ((c.pairs.take K.sub.toNat).drop k) : Nat) else K.sub) = if (k : Int) < (if H.walkedI = i then K.sub - (nGone H c ((c.pairs.take K.sub.toNat).drop (k + 1)) : Nat) else K.sub) ∧ H.walkedI = i then (if H.walkedI = i then K.sub - (nGone H c ((c.pairs.take K.sub.toNat).drop (k + 1)) : Nat) else K.sub) - 1 else (if H.walkedI = i then K.sub - (nGone H c ((c.pairs.take K.sub.toNat).drop (k + 1)) : Nat) else K.sub) := by
    by_cases hw : H.walkedI = i
    · simp only [hw, if_true, and_true]
      have hn := nGone_le H c ((c.pairs.take K.sub.toNat).drop (k + 1))
      rw [List.length_drop, List.length_take] at hn
      by_cases h : (k : Int) < K.sub
      · have hp' : (c.pairs.take K.sub.toNat)[k]? = some p := by rw [List.getElem?_take, if_pos (by omega)]; exact hp
        have h' := List.getElem?_eq_some_iff.1 hp'
        have e4 : nGone H c ((c.pairs.take K.sub.toNat).drop k) = nGone H c ((c.pairs.take K.sub.toNat).drop (k + 1)) + 1 := by
          rw [List.drop_eq_getElem_cons h'.1, h'.2]
          have : p :: (c.pairs.take K.sub.toNat).drop (k + 1) = [p] ++ (c.pairs.take K.sub.toNat).drop (k + 1) := rfl
          rw [this, nGone_app, nGone_one, if_pos hg]; omega
        rw [if_pos (by omega), e4]; omega
      · have e5 : ∀ j, k ≤ j → (c.pairs.take K.sub.toNat).drop j = [] := fun j hj => List.drop_eq_nil_of_le (by rw [List.length_take]; omega)
        rw [e5 k (Nat.le_refl _), e5 (k + 1) (by omega)]
        have e0 : nGone H c [] = 0 := rfl
        rw [e0, if_neg (by omega)]
    · simp only [hw, if_false, and_false]
  unfold Heap.dk
  simp only [List.set_set]
  rw [e1, e3]
  have e6 : K.used - ((nGone H c (c.pairs.drop k) : Nat) : Int) = K.used - (nGone H c (c.pairs.drop (k + 1)) : Nat) - 1 := by rw [e2]; omega
  rw [e6]
theorem dk_like {K H : Heap} {c : Cell} {i k : Nat} (h : Like H K) (hi : K.cells[i]? = some c) : Like H (K.dk H c i k) := by
  have hlt := (List.getElem?_eq_some_iff.1 hi).1
  have hg := getC_nat hi
  exact h.trans (like_set (c := { c with pairs := c.pairs.take k ++ kept H c (c.pairs.drop k) }) hlt (by rw [hg]; exact ⟨rfl, rfl, rfl, rfl, rfl, rfl⟩) rfl rfl rfl rfl rfl rfl rfl rfl rfl rfl rfl)
end Go.Proofs.Ytcmllambknfleaa.E
set_option linter.unusedVariables false
set_option linter.unusedSimpArgs false
set_option maxHeartbeats 8000000
set_option maxRecDepth 100000
namespace Go.Proofs.Ytcmllambknfleaa.E
open Go
open Classical
theorem l4settle_a {a : Nat} {x : HX} (h : Sound x.H) : FnA Try.prog 123 [ptr a] (hp a x) (fun v As => ∃ z : HX, v = .tuple #[.int .i64 (g1 x.H x.H.cells.length : Nat), .int .i64 (d2 x.H x.H.cells.length : Nat)] ∧ As = hp a z ∧ z.H = x.H.settleH) := by
  obtain ⟨q1, q2, q3⟩ := sound_gray h
  have hl := x.len
  have hnc : x.hdr.nc = x.xs.length := rfl
  have h2 := h.r2
  have hrm := h.r1.room
  have hsb := h.r1.sub
  have hus := h.r3
  have hun := pairsN_units h2
  have hpn := pairsN_nonneg x.H.cells
  unfold R3 at hus
  have hln := heldL_len x.H
  refine fnA_of (fun h => fn123 (by simp) h) ?_
  repeat' (first
    | (refine k_L ?_; first | refine a_p rfl ?_ | (refine k_l ?_; refine g_l rfl ?_) | (refine g_c rfl (fna_ro (q := fun v E => ∃ sd : D, v = .slice sd.a (heldL x.H).length sd.cap ∧ E = [slA 1 bv sd (heldL x.H)]) (Bs := hp a x) (fun m hm => (l2holds_a (has_star hm) h.r1 h.r2 h.r4).mono (fun v As ⟨sd, e1, e2⟩ => ⟨_, ⟨sd, e1, rfl⟩, e2⟩))) (fun v As' hq => ?_); obtain ⟨_, ⟨sd, rfl, rfl⟩, rfl⟩ := hq))
    | refine a_n ?_
    | (refine k_V ?_; first | refine v_seq ?_ | refine v_reg ?_)
    | refine s_n ?_)
  refine g_range x.xs.length (fun q : HX × Nat => [(0, .v (ptr a)), (4, .v (.slice sd.a (heldL x.H).length sd.cap)), (5, .v (.int .i64 q.2))]) (fun q => hp a q.1 ++ [slA 1 bv sd (heldL x.H)]) (fun i q => q.1.H = p1 x.H i ∧ q.2 = g1 x.H i) ((x, 0) : HX × Nat) ⟨rfl, rfl⟩ (fun i q hi hv => ?_) (fun q hv => ?_)
  · obtain ⟨z, g⟩ := q
    obtain ⟨hz, hg⟩ := hv
    simp only at hz hg
    subst hg
    dsimp only
    obtain ⟨lk, lc, lla, lu, ls1, ls2⟩ := p1_ok x.H i (by omega)
    rw [← hz] at lk lc lla lu ls1 ls2
    have hzl := z.len
    have hzn : z.hdr.nc = z.xs.length := rfl
    have hzx : z.xs.length = x.xs.length := by rw [← hzl, lk.len, hl]
    obtain ⟨y, gy, gyc⟩ := HX.at (x := z) (i := i) (by omega)
    have gk := HX.gc gy
    have gx : x.H.getC i = y.c := by rw [← lc i (Nat.le_refl _)]; exact gk
    have gxs := getL_some (cs := x.H.cells) (j := i) (by omega) (by omega)
    rw [Int.toNat_natCast, ← getC_L, gx] at gxs
    have hpl := h2.pl (List.mem_of_getElem? gxs)
    have hg1 := g1_le h2 i
    have hzu : z.used = x.H.used - g1 x.H i := lu
    have hzs1 : x.H.sub - g1 x.H i ≤ z.sub := ls1
    have hzs2 : z.sub ≤ x.H.sub := ls2
    have hgi := heldL_get (H := x.H) (j := i) (by omega)
    have eg : g1 x.H (i + 1) = if Held x.H i then g1 x.H i + nGone x.H y.c y.c.pairs else g1 x.H i := by show (if _ then _ else _) = _; rw [gx]
    have ep : p1 x.H (i + 1) = if Held x.H i then x.H.cutC z.H i else z.H := by show (if _ then _ else _) = _; rw [hz]
    have gy' : z.xs[(i : Int).toNat]? = some y := gy
    by_cases hh : Held x.H i
    · rw [decide_eq_true hh] at hgi
      rw [if_pos hh] at eg ep
      have hgi' : (heldL x.H)[(i : Int).toNat]? = some true := hgi
      repeat' (first
        | (refine k_L ?_; first | (refine k_su ?_; refine g_su rfl rfl ?_) | refine a_p rfl ?_ | (refine k_l ?_; refine g_l rfl ?_) | (refine k_i ?_; refine g_i rfl rfl ?_))
        | refine a_n ?_
        | (refine k_V ?_; first | refine v_seq ?_ | refine v_reg ?_ | refine v_skip ?_ | refine v_cf rfl ?_)
        | refine s_n ?_)
      refine v_mono (Q := seqA (Jx (fun u : HX => [(5, .v (.int .i64 (g1 x.H i + nGone x.H y.c y.c.pairs : Nat))), (0, .v (ptr a)), (4, .v (.slice sd.a (heldL x.H).length sd.cap)), (6, .v (.int .i64 i)), (19, .v (.int .i64 i)), (18, .v (.int .i64 x.xs.length))]) (fun u => hp a u ++ [slA 1 bv sd (heldL x.H)]) (fun u => u.H = x.H.cutC z.H i)) (fun _ _ _ => False)) ?_ ?_
      · refine v_blk ?_
        refine v_loop (fun q : Nat × HX => [(7, .v (.int .i64 ((q.1 : Int) - 1))), (5, .v (.int .i64 (g1 x.H i + nGone x.H y.c (y.c.pairs.drop q.1) : Nat))), (0, .v (ptr a)), (4, .v (.slice sd.a (heldL x.H).length sd.cap)), (6, .v (.int .i64 i)), (19, .v (.int .i64 i)), (18, .v (.int .i64 x.xs.length))]) (fun q => hp a q.2 ++ [slA 1 bv sd (heldL x.H)]) (fun n q => n = q.1 ∧ q.1 ≤ y.c.pairs.length ∧ q.2.H = z.H.dk x.H y.c i q.1) ⟨_, (y.c.pairs.length, z), ?_, Pm.ent (by (fail_if_success apply pm_bad); (repeat (first | exact pm_nil | (apply pm_cons; repeat (first | exact pk_h | apply pk_t)))); fail_if_success focus skip), rfl, Nat.le_refl _, ?_⟩ ?_
        · simp only [List.drop_length]
          repeat (first | exact trivial | refine ⟨rfl, ?_⟩)
        · exact (dk_top gyc).symm
        rintro n ⟨k, u⟩ ⟨hnk, hk, hu⟩
        simp only at hnk hk hu
        dsimp only
        have lu' := dk_like (H := x.H) (i := i) (k := k) lk gyc
        rw [← hu] at lu'
        have hul := u.len
        have hun : u.hdr.nc = u.xs.length := rfl
        have hux : u.xs.length = x.xs.length := by rw [← hul, lu'.len, hl]
        have hlt : i < z.H.cells.length := by omega
        obtain ⟨w, gw, gwc⟩ := HX.at (x := u) (i := i) (by omega)
        have ewc : w.c = { y.c with pairs := y.c.pairs.take k ++ kept x.H y.c (y.c.pairs.drop k) } := by
          have h1 : u.H.cells[i]? = some w.c := gwc
          rw [hu] at h1
          have h3 : (z.H.dk x.H y.c i k).cells[i]? = some { y.c with pairs := y.c.pairs.take k ++ kept x.H y.c (y.c.pairs.drop k) } := by
            show (z.H.cells.set i _)[i]? = _
            rw [List.getElem?_set, if_pos rfl, if_pos hlt]
          rw [h3] at h1
          exact (Option.some.inj h1).symm
        have gw' : u.xs[(i : Int).toNat]? = some w := gw
        have huu : u.used = z.used - nGone x.H y.c (y.c.pairs.drop k) := by
          have : u.H.used = z.H.used - nGone x.H y.c (y.c.pairs.drop k) := by rw [hu]; rfl
          exact this
        have hus2 : u.sub = if x.H.walkedI = i then z.sub - nGone x.H y.c ((y.c.pairs.take z.sub.toNat).drop k) else z.sub := by
          have : u.H.sub = if x.H.walkedI = i then z.H.sub - nGone x.H y.c ((y.c.pairs.take z.H.sub.toNat).drop k) else z.H.sub := by rw [hu]; rfl
          exact this
        have hn1 : nGone x.H y.c (y.c.pairs.drop k) ≤ 200 := by
          have := nGone_le x.H y.c (y.c.pairs.drop k)
          rw [List.length_drop] at this; omega
        have hn2 : nGone x.H y.c ((y.c.pairs.take z.sub.toNat).drop k) ≤ 200 := by
          have := nGone_le x.H y.c ((y.c.pairs.take z.sub.toNat).drop k)
          rw [List.length_drop, List.length_take] at this; omega
        have hus3 : z.sub - 200 ≤ u.sub ∧ u.sub ≤ z.sub := by rw [hus2]; split <;> omega
        cases k with
        | zero =>
          repeat' (first
            | (refine k_L ?_; refine a_p rfl ?_)
            | refine a_n ?_
            | (refine k_V ?_; first | refine v_seq ?_ | refine v_reg ?_ | refine v_exit ?_ | refine v_cf rfl ?_)
            | refine s_n ?_
            | refine s_e ?_
            | refine b_e ?_)
          refine j_i u (by rw [hu, dk_bot gk]) (hl := ?_)
          simp only [List.drop_zero]
          repeat (first | exact trivial | refine ⟨rfl, ?_⟩)
        | succ k =>
          obtain ⟨p, gp⟩ : ∃ p, y.c.pairs[k]? = some p := ⟨_, List.getElem?_eq_getElem (by omega)⟩
          have gpw : w.c.pairs[k]? = some p := by
            rw [ewc]
            show (y.c.pairs.take (k + 1) ++ _)[k]? = _
            rw [List.getElem?_append_left (by rw [List.length_take]; omega), List.getElem?_take, if_pos (by omega)]; exact gp
          have hwl := (List.getElem?_eq_some_iff.1 gpw).1
          have ekk : ((k + 1 : Nat) : Int) - 1 = k := by omega
          have gpw' : w.c.pairs[(k : Int).toNat]? = some p := gpw
          have ewk : w.c.weak = y.c.weak := by rw [ewc]
          have hwl2 : w.c.pairs.length ≤ 200 := by
            rw [ewc]
            show (y.c.pairs.take (k + 1) ++ kept x.H y.c (y.c.pairs.drop (k + 1))).length ≤ 200
            have := kept_len x.H y.c (y.c.pairs.drop (k + 1))
            rw [List.length_append, List.length_take]
            rw [List.length_drop] at this
            omega
          obtain ⟨pf1, pf2, _⟩ := h.r4.pairs i y.c gxs k p gp
          rw [ekk]
          refine v_seq ?_
          refine v_seq ?_
          repeat' (first
            | (refine k_L ?_; refine a_p rfl ?_)
            | refine a_n ?_
            | (refine k_V ?_; first | refine v_reg ?_ | refine v_skip ?_ | refine v_ct rfl ?_)
            | refine s_n ?_)
          refine v_seq ?_
          repeat' (first
            | refine a_n ?_
            | (refine k_V ?_; refine v_bs ?_))
          refine v_seq ?_
          repeat' (first
            | (refine k_L ?_; first | refine a_p rfl ?_ | (refine k_l ?_; refine g_l rfl ?_) | (refine k_i ?_; refine g_i rfl rfl ?_) | (refine k_ls ?_; refine g_ls rfl ?_) | (refine k_st ?_; refine g_sw rfl rfl rfl rfl (Nat.le_of_ble_eq_true rfl) ?_) | (refine k_al ?_; refine a_al ?_))
            | refine a_n ?_
            | (refine k_V ?_; refine v_reg ?_)
            | refine s_n ?_
            | refine sk_zero ?_
            | refine sk_succ ?_
            | refine wk_nil ?_
            | refine wk_cons ?_)
          refine v_seq ?_
          repeat' (first
            | (refine k_L ?_; first | refine a_p rfl ?_ | (refine k_l ?_; refine g_l rfl ?_) | (refine k_i ?_; refine g_i rfl rfl ?_))
            | refine a_n ?_
            | (refine k_V ?_; refine v_reg ?_)
            | refine s_n ?_)
          refine g_cut (fun _ : Unit => [(81, .v (.bool (decide (GoneP x.H y.c p)))), (7, .v (.int .i64 k)), (5, .v (.int .i64 (g1 x.H i + nGone x.H y.c (y.c.pairs.drop (k + 1)) : Nat))), (0, .v (ptr a)), (4, .v (.slice sd.a (heldL x.H).length sd.cap)), (6, .v (.int .i64 i)), (19, .v (.int .i64 i)), (18, .v (.int .i64 x.xs.length))]) (fun _ => hp a u ++ [slA 1 bv sd (heldL x.H)]) (fun _ => True) ?_ (fun _ _ => ?_)
          · have gwk : IntKind.i64.wrap (BitVec.ofInt IntKind.i64.bits w.c.weak &&& BitVec.ofInt IntKind.i64.bits 1).toNat > 0 ↔ ¬ KeyW y.c := by rw [ewk]; exact keyw_pos
            have gwv : IntKind.i64.wrap (BitVec.ofInt IntKind.i64.bits w.c.weak &&& BitVec.ofInt IntKind.i64.bits 2).toNat > 0 ↔ ¬ ValW y.c := by rw [ewk]; exact valw_pos
            repeat' (first
              | (refine k_L ?_; first | refine a_p rfl ?_ | (refine k_g ?_; first | refine a_gy rfl rfl ?_ | refine a_gn rfl rfl ?_ | refine a_gu rfl ?_ | (refine a_gd rfl (fun hb => ?_) (fun hb => ?_) <;> try (exfalso; omega))) | (refine a_cq rfl (fun m hm => l4lost_q (z := u) (H := x.H) (sd := sd) (w := p.key) (sep_has hm (by (fail_if_success apply pm_bad); (repeat (first | exact pm_nil | (apply pm_cons; repeat (first | exact pk_h | apply pk_t)))); fail_if_success focus skip)) (sep_has hm (by (fail_if_success apply pm_bad); (repeat (first | exact pm_nil | (apply pm_cons; repeat (first | exact pk_h | apply pk_t)))); fail_if_success focus skip)) h2 lu' pf1) ?_) | (refine a_cq rfl (fun m hm => l4lost_q (z := u) (H := x.H) (sd := sd) (w := p.val) (sep_has hm (by (fail_if_success apply pm_bad); (repeat (first | exact pm_nil | (apply pm_cons; repeat (first | exact pk_h | apply pk_t)))); fail_if_success focus skip)) (sep_has hm (by (fail_if_success apply pm_bad); (repeat (first | exact pm_nil | (apply pm_cons; repeat (first | exact pk_h | apply pk_t)))); fail_if_success focus skip)) h2 lu' pf2) ?_))
              | refine a_n ?_
              | (refine k_V ?_; refine v_reg ?_)
              | refine s_n ?_)
            · refine j_i () trivial (hl := ⟨?_, by (repeat (first | exact trivial | refine ⟨rfl, ?_⟩))⟩)
              exact congrArg SV.v (ret_t (.inl ⟨gwk.1 (by assumption), by assumption⟩))
            · refine j_i () trivial (hl := ⟨?_, by (repeat (first | exact trivial | refine ⟨rfl, ?_⟩))⟩)
              refine congrArg SV.v (congrArg Value.bool ?_)
              refine decide_eq_decide.2 ⟨fun h => .inr ⟨gwv.1 (by assumption), h⟩, fun h => ?_⟩
              rcases h with h | h
              · exact absurd h.2 (by assumption)
              · exact h.2
            · refine j_i () trivial (hl := ⟨?_, by (repeat (first | exact trivial | refine ⟨rfl, ?_⟩))⟩)
              refine congrArg SV.v (ret_f fun h => ?_)
              rcases h with h | h
              · exact absurd h.2 (by assumption)
              · exact absurd (gwv.2 h.1) (by assumption)
            · refine j_i () trivial (hl := ⟨?_, by (repeat (first | exact trivial | refine ⟨rfl, ?_⟩))⟩)
              refine congrArg SV.v (congrArg Value.bool ?_)
              refine decide_eq_decide.2 ⟨fun h => .inr ⟨gwv.1 (by assumption), h⟩, fun h => ?_⟩
              rcases h with h | h
              · exact absurd (gwk.2 h.1) (by assumption)
              · exact h.2
            · refine j_i () trivial (hl := ⟨?_, by (repeat (first | exact trivial | refine ⟨rfl, ?_⟩))⟩)
              refine congrArg SV.v (ret_f fun h => ?_)
              rcases h with h | h
              · exact absurd (gwk.2 h.1) (by assumption)
              · exact absurd (gwv.2 h.1) (by assumption)
          by_cases hG : GoneP x.H y.c p
          · have e2 : nGone x.H y.c (y.c.pairs.drop k) = nGone x.H y.c (y.c.pairs.drop (k + 1)) + 1 := by rw [drop_s gp, nGone_app, nGone_one, if_pos hG]; omega
            have e3 : ((g1 x.H i + nGone x.H y.c (y.c.pairs.drop k) : Nat) : Int) = ((g1 x.H i + nGone x.H y.c (y.c.pairs.drop (k + 1)) : Nat) : Int) + 1 := by rw [e2]; omega
            have edk := dk_gone (K := z.H) (H := x.H) (c := y.c) (i := i) hlt gp hG
            rw [decide_eq_true hG]
            repeat' (first
              | (refine k_L ?_; first | (refine k_ad ?_; refine g_ad rfl rfl ?_) | (refine k_su ?_; refine g_su rfl rfl ?_) | refine a_p rfl ?_ | (refine g_c rfl (l4cut_a (z := u) (i := i) (k := k) gw hwl hwl2 (by omega) (by omega) (by omega)) (fun v As' hq => ?_); obtain ⟨u2, rfl, _, hu2⟩ := hq))
              | refine a_n ?_
              | (refine k_V ?_; first | refine v_seq ?_ | refine v_reg ?_ | refine v_ct rfl ?_)
              | refine s_n ?_)
            refine ⟨k, (k, u2), by omega, ?_, Pm.ent (by (fail_if_success apply pm_bad); (repeat (first | exact pm_nil | (apply pm_cons; repeat (first | exact pk_h | apply pk_t)))); fail_if_success focus skip), rfl, by show k ≤ y.c.pairs.length; omega, ?_⟩
            · rw [e3]
              (repeat (first | exact trivial | refine ⟨rfl, ?_⟩))
            · show u2.H = z.H.dk x.H y.c i k
              rw [hu2, edk, ← hu, lu'.walked, ewc]
              rfl
          · have e2 : nGone x.H y.c (y.c.pairs.drop k) = nGone x.H y.c (y.c.pairs.drop (k + 1)) := by rw [drop_s gp, nGone_app, nGone_one, if_neg hG]; omega
            have edk := dk_keep (K := z.H) (H := x.H) (c := y.c) (i := i) gp hG
            rw [decide_eq_false hG]
            repeat' (first
              | (refine k_L ?_; first | (refine k_su ?_; refine g_su rfl rfl ?_) | refine a_p rfl ?_)
              | refine a_n ?_
              | (refine k_V ?_; first | refine v_reg ?_ | refine v_skip ?_ | refine v_cf rfl ?_)
              | refine s_n ?_)
            refine ⟨k, (k, u), by omega, ?_, Pm.ent (by (fail_if_success apply pm_bad); (repeat (first | exact pm_nil | (apply pm_cons; repeat (first | exact pk_h | apply pk_t)))); fail_if_success focus skip), rfl, by show k ≤ y.c.pairs.length; omega, ?_⟩
            · rw [e2]
              (repeat (first | exact trivial | refine ⟨rfl, ?_⟩))
            · show u.H = z.H.dk x.H y.c i k
              rw [hu, edk]
      rintro t S' As' hq
      cases t with
      | ret => exact hq.elim
      | ext i => exact hq.elim
      | nrm =>
      obtain ⟨u, hl', he', hu⟩ := hq
      refine r_nx ((u, g1 x.H (i + 1)) : HX × Nat) ⟨by rw [ep]; exact hu, rfl⟩ (hl := ?_) (he := he')
      rw [eg]
      obtain ⟨k1, k2, k3, k4, k5, k6, _⟩ := hl'
      exact ⟨k5, k6, k2, k3, k1, trivial⟩
    · rw [decide_eq_false hh] at hgi
      rw [if_neg hh] at eg ep
      have hgi' : (heldL x.H)[(i : Int).toNat]? = some false := hgi
      repeat' (first
        | (refine k_L ?_; first | refine a_p rfl ?_ | (refine k_l ?_; refine g_l rfl ?_) | (refine k_i ?_; refine g_i rfl rfl ?_))
        | refine a_n ?_
        | (refine k_V ?_; first | refine v_seq ?_ | refine v_reg ?_ | refine v_exit ?_ | refine v_ct rfl ?_)
        | refine s_e ?_)
      exact r_ct ((z, g1 x.H i) : HX × Nat) ⟨ep.symm, eg.symm⟩
  obtain ⟨z0, g0⟩ := q
  obtain ⟨hz0, hg0⟩ := hv
  simp only at hz0 hg0
  subst hg0
  dsimp only
  obtain ⟨lk0, _, lla0, lu0, _⟩ := p1_ok x.H x.H.cells.length (Nat.le_refl _)
  rw [hl] at lk0 lla0 lu0
  rw [← hz0] at lk0
  have hz0n : z0.hdr.nc = z0.xs.length := rfl
  have hz0l := z0.len
  have hz0x : z0.xs.length = x.xs.length := by rw [← hz0l, lk0.len, hl]
  repeat' (first
    | (refine k_L ?_; first | refine a_p rfl ?_ | (refine k_l ?_; refine g_l rfl ?_))
    | refine a_n ?_
    | (refine k_V ?_; first | refine v_seq ?_ | refine v_reg ?_)
    | refine s_n ?_)
  refine g_range x.xs.length (fun q : HX × Nat => [(0, .v (ptr a)), (4, .v (.slice sd.a (heldL x.H).length sd.cap)), (5, .v (.int .i64 (g1 x.H x.xs.length))), (10, .v (.int .i64 q.2))]) (fun q => hp a q.1 ++ [slA 1 bv sd (heldL x.H)]) (fun i q => q.1.H = p2 x.H i ∧ q.2 = d2 x.H i) ((z0, 0) : HX × Nat) ⟨by show z0.H = p1 x.H x.H.cells.length; rw [hz0, hl], rfl⟩ (fun i q hi hv => ?_) (fun q hv => ?_) (hl := by
    have : z0.hdr.nc = x.xs.length := by omega
    rw [this]
    repeat (first | exact trivial | refine ⟨rfl, ?_⟩))
  · obtain ⟨z, d⟩ := q
    obtain ⟨hz, hd⟩ := hv
    simp only at hz hd
    subst hd
    dsimp only
    obtain ⟨lk, lc, _, _, _⟩ := p2_ok x.H i (by omega)
    rw [← hz] at lk lc
    have hzl := z.len
    have hzn : z.hdr.nc = z.xs.length := rfl
    have hzx : z.xs.length = x.xs.length := by rw [← hzl, lk.len, hl]
    obtain ⟨y, gy, gyc⟩ := HX.at (x := z) (i := i) (by omega)
    have gk := HX.gc gy
    have hd2 := d2_le x.H i
    have hlast : y.c.last = (x.H.getC i).last := by rw [← gk, lc i (Nat.le_refl _), hl]; exact lla0 i
    have hgi := heldL_get (H := x.H) (j := i) (by omega)
    have ed : d2 x.H (i + 1) = if ¬ Held x.H i ∧ y.c.last = 1 then d2 x.H i + 1 else d2 x.H i := by show (if _ then _ else _) = _; rw [hlast]
    have ep : p2 x.H (i + 1) = if ¬ Held x.H i ∧ y.c.last = 1 then { z.H with cells := z.H.cells.set i { z.H.getC i with last := 2 } } else z.H := by show (if _ then _ else _) = _; rw [hlast, hz]
    have gy' : z.xs[(i : Int).toNat]? = some y := gy
    by_cases hh : Held x.H i
    · rw [decide_eq_true hh] at hgi
      have hgi' : (heldL x.H)[(i : Int).toNat]? = some true := hgi
      rw [if_neg (fun h => h.1 hh)] at ed ep
      repeat' (first
        | (refine k_L ?_; first | refine a_p rfl ?_ | (refine k_g ?_; first | refine a_gy rfl rfl ?_ | refine a_gn rfl rfl ?_ | (refine a_gd rfl (fun hb => ?_) (fun hb => ?_) <;> try (exfalso; omega))) | (refine k_l ?_; refine g_l rfl ?_) | (refine k_i ?_; refine g_i rfl rfl ?_))
        | refine a_n ?_
        | (refine k_V ?_; first | refine v_seq ?_ | refine v_reg ?_ | refine v_skip ?_ | refine v_cf rfl ?_))
      all_goals exact r_nx ((z, d2 x.H i) : HX × Nat) ⟨ep.symm, ed.symm⟩
    · rw [decide_eq_false hh] at hgi
      have hgi' : (heldL x.H)[(i : Int).toNat]? = some false := hgi
      by_cases hl1 : y.c.last = 1
      · rw [if_pos ⟨hh, hl1⟩] at ed ep
        repeat' (first
          | (refine k_L ?_; first | (refine k_ad ?_; refine g_ad rfl rfl ?_) | refine a_p rfl ?_ | (refine k_g ?_; first | refine a_gy rfl rfl ?_ | (refine a_gd rfl (fun hb => ?_) (fun hb => ?_) <;> try (exfalso; omega))) | (refine k_l ?_; refine g_l rfl ?_) | (refine k_i ?_; refine g_i rfl rfl ?_) | (refine k_st ?_; refine g_st rfl rfl rfl rfl ?_))
          | refine a_n ?_
          | (refine k_V ?_; first | refine v_seq ?_ | refine v_reg ?_ | refine v_ct rfl ?_))
        generalize hZ : ({ z with xs := z.xs.set i (y.s_last 2) } : HX) = Z
        have hdr : z.hdr = Z.hdr := by rw [← hZ]; simp [HX.hdr]
        have zH : Z.H = p2 x.H (i + 1) := by
          rw [← hZ, ep, gk]
          unfold HX.H
          simp only [List.map_set]
          rfl
        refine r_nx ((Z, d2 x.H (i + 1)) : HX × Nat) ⟨zH, rfl⟩ (hl := ?_) (he := ?_)
        · dsimp only
          rw [ed]
          repeat (first | exact trivial | refine ⟨rfl, ?_⟩)
        · rw [hdr]
          dsimp only
          have e1 : Z.rd = z.rd ∧ Z.regs = z.regs ∧ Z.cd = z.cd ∧ Z.gd = z.gd ∧ Z.gray = z.gray ∧ Z.xs = z.xs.set i (y.s_last 2) := by rw [← hZ]; exact ⟨rfl, rfl, rfl, rfl, rfl, rfl⟩
          show Ent _ ([hdA a Z.hdr, slA 3 wv Z.rd Z.regs, clA Z.cd Z.xs, slA 1 iv Z.gd Z.gray] ++ [slA 1 bv sd (heldL x.H)])
          rw [e1.1, e1.2.1, e1.2.2.1, e1.2.2.2.1, e1.2.2.2.2.1, e1.2.2.2.2.2]
          exact Pm.ent (by (fail_if_success apply pm_bad); (repeat (first | exact pm_nil | (apply pm_cons; repeat (first | exact pk_h | apply pk_t)))); fail_if_success focus skip)
      · rw [if_neg (fun h => hl1 h.2)] at ed ep
        repeat' (first
          | (refine k_L ?_; first | refine a_p rfl ?_ | (refine k_g ?_; first | refine a_gn rfl rfl ?_ | (refine a_gd rfl (fun hb => ?_) (fun hb => ?_) <;> try (exfalso; omega))) | (refine k_l ?_; refine g_l rfl ?_) | (refine k_i ?_; refine g_i rfl rfl ?_))
          | refine a_n ?_
          | (refine k_V ?_; first | refine v_seq ?_ | refine v_reg ?_ | refine v_skip ?_ | refine v_cf rfl ?_))
        all_goals exact r_nx ((z, d2 x.H i) : HX × Nat) ⟨ep.symm, ed.symm⟩
  · obtain ⟨z, d⟩ := q
    obtain ⟨hz, hd⟩ := hv
    simp only at hz hd
    subst hd
    dsimp only
    repeat' (first
      | (refine k_L ?_; refine a_p rfl ?_)
      | refine a_n ?_
      | (refine k_V ?_; first | refine v_seq ?_ | refine v_reg ?_ | refine v_ret ?_))
    refine fa_r (As' := hp a z) (fun _ _ => rfl) (Pm.ent (by (fail_if_success apply pm_bad); (repeat (first | exact pm_nil | (apply pm_cons; repeat (first | exact pk_h | apply pk_t)))); fail_if_success focus skip)) ⟨z, ?_, rfl, ?_⟩
    · rw [hl]
    · unfold Heap.settleH
      rw [hz, hl]
end Go.Proofs.Ytcmllambknfleaa.E
set_option maxRecDepth 100000
set_option linter.unusedVariables false
namespace Go.Proofs.Ytcmllambknfleaa.E
open Go
noncomputable def e58 : Env := ⟨Try.prog, [2], 10, []⟩
noncomputable def c58 : C :=
  .seq (.reg [
    ⟨some 2, none, .box true (.tmp 0)⟩,
    ⟨some 4, none, .mov (.const (.int .i64 0))⟩]) (.seq (.reg [
    ⟨some 5, none, .faddr 0 (.tmp 2)⟩,
    ⟨some 6, none, .load false 13 (.tmp 5)⟩,
    ⟨some 7, none, .mov (.tmp 1)⟩,
    ⟨some 8, none, .call 28 [.tmp 6, .tmp 7]⟩,
    ⟨some 1, none, .mov (.tmp 8)⟩]) (.seq (.reg [
    ⟨some 9, none, .mov (.tmp 1)⟩,
    ⟨some 4, none, .mov (.tmp 9)⟩]) (.ret)))
theorem t58 : Try.f58.body.bind (trC e58) = some c58 := by kernel_rfl
theorem r58 : Try.f58.results.toList.mapM (trR Try.prog) = some [.tmp 4] := by kernel_rfl
theorem fn58 {args : List Value} {M : Mem} {post : Value → Mem → Prop} (hl : args.length ≤ 10) (h : VC e58 c58 (fnQ [.tmp 4] post) (initS args 10) M) : Fn Try.prog 58 args M post :=
  Fn.of' (E := e58) Try.func58 t58 rfl r58 mixed hl h
noncomputable def e59 : Env := ⟨Try.prog, [2], 12, []⟩
noncomputable def c59 : C :=
  .seq (.reg [
    ⟨some 2, none, .box true (.tmp 0)⟩,
    ⟨some 4, none, .mov (.const (.int .i64 0))⟩]) (.seq (.reg [
    ⟨some 5, none, .faddr 0 (.tmp 2)⟩,
    ⟨some 6, none, .load false 13 (.tmp 5)⟩,
    ⟨some 7, none, .mov (.tmp 1)⟩,
    ⟨some 8, none, .call 29 [.tmp 6, .tmp 7]⟩,
    ⟨some 1, none, .mov (.tmp 8)⟩]) (.seq (.seq (.reg [
    ⟨some 9, none, .mov (.tmp 1)⟩,
    ⟨some 10, none, .bin .lss (.tmp 9) (.const (.int .i64 0))⟩]) (.cond (.tmp 10) (.seq (.reg [
    ⟨some 4, none, .mov (.const (.int .i64 (-1)))⟩]) (.ret)) (.skip))) (.seq (.reg [
    ⟨some 11, none, .mov (.tmp 1)⟩,
    ⟨some 4, none, .mov (.tmp 11)⟩]) (.ret))))
theorem t59 : Try.f59.body.bind (trC e59) = some c59 := by kernel_rfl
theorem r59 : Try.f59.results.toList.mapM (trR Try.prog) = some [.tmp 4] := by kernel_rfl
theorem fn59 {args : List Value} {M : Mem} {post : Value → Mem → Prop} (hl : args.length ≤ 12) (h : VC e59 c59 (fnQ [.tmp 4] post) (initS args 12) M) : Fn Try.prog 59 args M post :=
  Fn.of' (E := e59) Try.func59 t59 rfl r59 mixed hl h
theorem r7 : Try.f7.results.toList.mapM (trR Try.prog) = some [.tmp 4] := by kernel_rfl
theorem r8 : Try.f8.results.toList.mapM (trR Try.prog) = some [.tmp 2] := by kernel_rfl
noncomputable def e15 : Env := ⟨Try.prog, [1, 4, 5, 6, 10], 69, [(10, 0)]⟩
noncomputable def c15 : C :=
  .seq (.reg [
    ⟨some 1, none, .box true (.tmp 0)⟩,
    ⟨some 2, none, .mov (.const (.bool false))⟩]) (.seq (.reg [
    ⟨some 3, none, .mov (.const (.int .i64 1048576))⟩]) (.seq (.reg [
    ⟨some 11, none, .load false 13 (.tmp 1)⟩,
    ⟨some 12, none, .mov (.tmp 3)⟩,
    ⟨some 13, none, .call 30 [.tmp 11, .tmp 12]⟩,
    ⟨some 3, none, .mov (.tmp 13)⟩]) (.seq (.seq (.reg [
    ⟨some 14, none, .mov (.tmp 3)⟩,
    ⟨some 15, none, .bin .lss (.tmp 14) (.const (.int .i64 0))⟩]) (.cond (.tmp 15) (.seq (.reg [
    ⟨some 2, none, .mov (.const (.bool true))⟩]) (.ret)) (.skip))) (.seq (.reg [
    ⟨some 16, none, .load false 13 (.tmp 1)⟩,
    ⟨some 17, none, .call 32 [.tmp 16]⟩,
    ⟨some 18, none, .call 55 [.tmp 17]⟩,
    ⟨some 4, none, .alloc true [.int .i64 0, .int .i64 0, .int .i64 0, .slice none 0 0, .slice none 0 0, .int .i64 0, .int .i64 0, .int .i64 0, .slice none 0 0, .int .i64 0, .int .i64 0, .int .i64 0, .int .i64 0, .int .i64 0, .int .i64 0]⟩,
    ⟨none, none, .store 15 (.tmp 4) (.tmp 18)⟩]) (.seq (.reg [
    ⟨some 19, none, .load false 13 (.tmp 1)⟩,
    ⟨some 20, none, .call 32 [.tmp 19]⟩,
    ⟨some 5, none, .alloc true [.int .i64 0, .int .i64 0, .int .i64 0, .slice none 0 0, .slice none 0 0, .int .i64 0, .int .i64 0, .int .i64 0, .slice none 0 0, .int .i64 0, .int .i64 0, .int .i64 0, .int .i64 0]⟩,
    ⟨none, none, .store 13 (.tmp 5) (.tmp 20)⟩]) (.seq (.reg [
    ⟨some 21, none, .load false 13 (.tmp 5)⟩,
    ⟨some 22, none, .call 56 [.tmp 21]⟩,
    ⟨some 6, none, .alloc true [.int .i64 0, .int .i64 0, .int .i64 0, .slice none 0 0, .slice none 0 0, .int .i64 0, .int .i64 0, .int .i64 0, .slice none 0 0, .int .i64 0, .int .i64 0, .int .i64 0, .int .i64 0, .int .i64 0, .int .i64 0]⟩,
    ⟨none, none, .store 15 (.tmp 6) (.tmp 22)⟩]) (.seq (.seq (.reg [
    ⟨some 23, none, .load false 15 (.tmp 6)⟩,
    ⟨some 24, none, .load false 15 (.tmp 4)⟩,
    ⟨some 25, none, .call 57 [.tmp 23, .tmp 24]⟩,
    ⟨some 26, none, .not (.tmp 25)⟩]) (.cond (.tmp 26) (.seq (.reg [
    ⟨some 2, none, .mov (.const (.bool false))⟩]) (.ret)) (.skip))) (.seq (.seq (.zreg [27, 28, 29, 30, 31] [
    ⟨some 27, none, .load false 13 (.tmp 5)⟩,
    ⟨some 28, none, .load false 13 (.tmp 1)⟩] [
    ⟨some 29, none, .call 32 [.tmp 28]⟩,
    ⟨some 30, none, .call 27 [.tmp 27, .tmp 29]⟩,
    ⟨some 31, none, .not (.tmp 30)⟩]) (.cond (.tmp 31) (.seq (.reg [
    ⟨some 2, none, .mov (.const (.bool false))⟩]) (.ret)) (.skip))) (.seq (.reg [
    ⟨some 7, none, .mov (.const (.int .i64 1))⟩]) (.seq (.reg [
    ⟨some 32, none, .load false 13 (.tmp 5)⟩,
    ⟨some 33, none, .mov (.tmp 7)⟩,
    ⟨some 34, none, .call 28 [.tmp 32, .tmp 33]⟩,
    ⟨some 7, none, .mov (.tmp 34)⟩]) (.seq (.seq (.reg [
    ⟨some 35, none, .mov (.tmp 7)⟩,
    ⟨some 36, none, .bin .lss (.tmp 35) (.const (.int .i64 0))⟩,
    ⟨some 37, none, .mov (.tmp 36)⟩,
    ⟨some 38, some (37, false), .load false 15 (.tmp 6)⟩,
    ⟨some 39, some (37, false), .load false 15 (.tmp 4)⟩,
    ⟨some 40, some (37, false), .call 57 [.tmp 38, .tmp 39]⟩,
    ⟨some 41, some (37, false), .not (.tmp 40)⟩,
    ⟨some 42, none, .pick (.tmp 37) (.const (.bool true)) (.tmp 41)⟩]) (.cond (.tmp 42) (.seq (.reg [
    ⟨some 2, none, .mov (.const (.bool false))⟩]) (.ret)) (.skip))) (.seq (.reg [
    ⟨some 8, none, .mov (.const (.int .i64 1))⟩]) (.seq (.reg [
    ⟨some 43, none, .load false 15 (.tmp 6)⟩,
    ⟨some 44, none, .mov (.tmp 8)⟩,
    ⟨some 45, none, .call 58 [.tmp 43, .tmp 44]⟩,
    ⟨some 8, none, .mov (.tmp 45)⟩]) (.seq (.reg [
    ⟨some 9, none, .mov (.const (.int .i64 1))⟩]) (.seq (.reg [
    ⟨some 46, none, .load false 15 (.tmp 6)⟩,
    ⟨some 47, none, .mov (.tmp 9)⟩,
    ⟨some 48, none, .call 59 [.tmp 46, .tmp 47]⟩,
    ⟨some 9, none, .mov (.tmp 48)⟩]) (.seq (.seq (.reg [
    ⟨some 49, none, .mov (.tmp 9)⟩,
    ⟨some 50, none, .bin .lss (.tmp 49) (.const (.int .i64 0))⟩]) (.cond (.tmp 50) (.seq (.reg [
    ⟨some 2, none, .mov (.const (.bool false))⟩]) (.ret)) (.skip))) (.seq (.seq (.reg [
    ⟨some 51, none, .mov (.tmp 9)⟩,
    ⟨some 52, none, .mov (.tmp 8)⟩,
    ⟨some 53, none, .bin .neq (.tmp 51) (.tmp 52)⟩]) (.cond (.tmp 53) (.seq (.reg [
    ⟨some 2, none, .mov (.const (.bool false))⟩]) (.ret)) (.skip))) (.seq (.reg [
    ⟨some 54, none, .load false 13 (.tmp 1)⟩,
    ⟨some 55, none, .call 32 [.tmp 54]⟩,
    ⟨some 56, none, .call 56 [.tmp 55]⟩,
    ⟨some 10, none, .alloc true [.int .i64 0, .int .i64 0, .int .i64 0, .slice none 0 0, .slice none 0 0, .int .i64 0, .int .i64 0, .int .i64 0, .slice none 0 0, .int .i64 0, .int .i64 0, .int .i64 0, .int .i64 0, .int .i64 0, .int .i64 0]⟩,
    ⟨none, none, .store 15 (.tmp 10) (.tmp 56)⟩]) (.seq (.seq (.reg [
    ⟨some 57, none, .load false 15 (.tmp 10)⟩,
    ⟨some 58, none, .load false 15 (.tmp 4)⟩,
    ⟨some 59, none, .call 57 [.tmp 57, .tmp 58]⟩,
    ⟨some 60, none, .not (.tmp 59)⟩]) (.cond (.tmp 60) (.seq (.reg [
    ⟨some 2, none, .mov (.const (.bool false))⟩]) (.ret)) (.skip))) (.seq (.reg [
    ⟨some 9, none, .mov (.const (.int .i64 1))⟩]) (.seq (.reg [
    ⟨some 61, none, .load false 15 (.tmp 6)⟩,
    ⟨some 62, none, .mov (.tmp 9)⟩,
    ⟨some 63, none, .call 59 [.tmp 61, .tmp 62]⟩,
    ⟨some 9, none, .mov (.tmp 63)⟩]) (.seq (.seq (.reg [
    ⟨some 64, none, .mov (.tmp 9)⟩,
    ⟨some 65, none, .bin .lss (.tmp 64) (.const (.int .i64 0))⟩]) (.cond (.tmp 65) (.seq (.reg [
    ⟨some 2, none, .mov (.const (.bool false))⟩]) (.ret)) (.skip))) (.seq (.seq (.reg [
    ⟨some 66, none, .mov (.tmp 9)⟩,
    ⟨some 67, none, .mov (.tmp 8)⟩,
    ⟨some 68, none, .bin .neq (.tmp 66) (.tmp 67)⟩]) (.cond (.tmp 68) (.seq (.reg [
    ⟨some 2, none, .mov (.const (.bool false))⟩]) (.ret)) (.skip))) (.seq (.reg [
    ⟨some 2, none, .mov (.const (.bool true))⟩]) (.ret)))))))))))))))))))))))))
theorem t15 : Try.f15.body.bind (trC e15) = some c15 := by kernel_rfl
theorem r15 : Try.f15.results.toList.mapM (trR Try.prog) = some [.tmp 2] := by kernel_rfl
theorem fn15 {args : List Value} {M : Mem} {post : Value → Mem → Prop} (hl : args.length ≤ 69) (h : VC e15 c15 (fnQ [.tmp 2] post) (initS args 69) M) : Fn Try.prog 15 args M post :=
  Fn.of' (E := e15) Try.func15 t15 rfl r15 mixed hl h
end Go.Proofs.Ytcmllambknfleaa.E
set_option linter.unusedVariables false
set_option linter.unusedSimpArgs false
set_option maxHeartbeats 8000000
set_option maxRecDepth 100000
namespace Go.Proofs.Ytcmllambknfleaa.E
open Go
open Classical
theorem mkG_ow2 : ∀ (k : Int) (ys : List CS), (mkG gCS wCS k ys).flatMap (fun y => own y.s) = ys.flatMap fun y => own y.s
  | k, [] => rfl
  | k, y :: r => by
    simp only [mkG, List.flatMap_cons, gCS_s]
    rw [mkG_ow2]
theorem gH_fp (k : Int) (x : HS) : (gH k x).fp = x.fp := by
  unfold HS.fp gH fpC
  simp only
  rw [mkG_ow2]
theorem markHeap_a {x : HX} {k : Int} (h0 : 0 ≤ k) (hb : endH k x.H ≤ 4611686018427387904) : FnA Try.prog 28 [x.v, .int .i64 k] x.body (fun v As => v = .int .i64 (endH k x.H) ∧ ∃ y : HX, y.hs = gH k x.hs ∧ As = y.body) :=
  ⟨fun m hm => (markHeap_f h0 hb (body_whv hm)).mono fun v M' ⟨h1, h2, h3⟩ => by
    have hw := body_whv hm
    obtain ⟨y, hy, hs⟩ := body_w (y := gH k x.hs) (M := M') ⟨h3, by rw [gH_fp]; exact hw.nd⟩
    exact ⟨y.body, _, resL_le _ _, hs, h1, y, hy, rfl⟩⟩
theorem heldHeap_a {x y : HX} {k : Int} {m : Mem} (h0 : 0 ≤ k) (hb : endH k x.H ≤ 4611686018427387904) (hy : y.hs = gH k x.hs) (h : Has m y.body) : Qt Try.prog 29 [x.v, .int .i64 k] m (.int .i64 (endH k x.H)) := by
  have h1 := h.b
  rw [hy] at h1
  exact heldHeap_q' (x := x.hs) h0 hb rfl h1
/-- an answer: a sound heap, or none -/
def OkK (K : Heap) : Prop := Sound K ∨ K = Heap.nil
theorem OkK.fin {K : Heap} (h : OkK K) : 1 ≤ endH 1 K ∧ endH 1 K ≤ 1000000 := by
  have hn := pairsN_nonneg K.cells
  rcases h with h | rfl
  · have h1 := h.r1.regs
    have h2 := h.r1.cells
    have h3 := h.r1.room
    have h4 := h.r1.gray
    have h5 := pairsN_units h.r2
    have h6 := h.r3
    unfold R3 at h6
    rw [endH_eq]; omega
  · rw [endH_eq]; simp [Heap.nil, pairsN]
end Go.Proofs.Ytcmllambknfleaa.E
set_option linter.unusedVariables false
set_option linter.unusedSimpArgs false
set_option maxHeartbeats 8000000
set_option maxRecDepth 100000
namespace Go.Proofs.Ytcmllambknfleaa.E
open Go
open Classical
noncomputable def Heap.settleA (H : Heap) : Heap := if okH H = 0 then H.settleH else Heap.nil
noncomputable def settleG (H : Heap) : Int := if okH H = 0 then (g1 H H.cells.length : Nat) else 0
noncomputable def settleD (H : Heap) : Int := if okH H = 0 then (d2 H H.cells.length : Nat) else 0
def HX.vn2 (x : HX) (n k : Int) : Value := .agg (x.row ++ [Value.int .i64 n, Value.int .i64 k]).toArray
def outAN2 (m : Mem) (K : Heap) (n k : Int) (v : Value) (As : List Asr) : Prop := ∃ E, (∃ y : HX, v = y.vn2 n k ∧ y.H = K ∧ E = y.body) ∧ As = E ++ [ro m]
theorem implSettle_a {m : Mem} {x : HX} (h : Has m x.body) : FnA Try.prog 56 [x.v] [ro m] (outAN2 m x.H.settleA (settleG x.H) (settleD x.H)) := by
  unfold Heap.settleA settleG settleD
  refine fnA_of (fun h => fn56 (by simp) h) ?_
  by_cases hS : okH x.H = 0
  · have hs1 := (okH_sound x.H).1 hS
    rw [if_pos hS, if_pos hS, if_pos hS]
    repeat' (first
      | (refine k_L ?_; first | refine a_p rfl ?_ | (refine k_al ?_; refine a_al ?_) | (refine k_bx ?_; refine a_bx rfl rfl ?_) | (refine k_c ?_; refine a_cq rfl (fun m hm => qt_e (sound_q (x := x) (has_g h hm)) (congrArg Value.bool (decide_eq_true hS))) ?_) | (refine g_c rfl (twin_a h hs1.r1 hs1.r2) (fun v As' hq => ?_); obtain ⟨b, z, rfl, rfl, hz⟩ := hq))
      | refine a_n ?_
      | (refine k_V ?_; first | refine v_seq ?_ | refine v_reg ?_ | refine v_skip ?_ | refine v_cf rfl ?_))
    refine g_c rfl (settle_a (x := z) (by rw [hz]; exact hs1)) (fun v As' hq => ?_)
    obtain ⟨u, rfl, rfl, hu⟩ := hq
    rw [hz] at hu ⊢
    generalize (g1 x.H x.H.cells.length) = ng
    generalize (d2 x.H x.H.cells.length) = nd
    refine a_p rfl ?_
    refine a_p (sv := .v (.int .i64 ng)) rfl ?_
    refine a_p (sv := .v (.int .i64 nd)) rfl ?_
    refine a_p rfl ?_
    refine a_p rfl (a_n ?_)
    repeat' (first
      | refine a_n ?_
      | (refine k_V ?_; first | refine v_seq ?_ | refine v_reg ?_))
    refine a_p rfl ?_
    refine a_p rfl ?_
    repeat' (first
      | (refine k_L ?_; (refine k_ls ?_; refine g_ls rfl ?_))
      | refine a_n ?_)
    refine a_p rfl ?_
    refine a_p rfl ?_
    refine a_p (sv := .v (u.vn2 ng nd)) rfl ?_
    repeat' (first
      | (refine k_L ?_; (refine k_st ?_; refine g_sw rfl rfl rfl rfl (Nat.le_of_ble_eq_true rfl) ?_))
      | refine a_n ?_
      | (refine k_V ?_; refine v_ret ?_)
      | refine sk_zero ?_
      | refine sk_succ ?_
      | refine wk_nil ?_
      | refine wk_cons ?_)
    exact fa_r (As' := u.body ++ [ro m]) (fun _ _ => rfl) (Pm.ent (by (fail_if_success apply pm_bad); (repeat (first | exact pm_nil | (apply pm_cons; repeat (first | exact pk_h | apply pk_t)))); fail_if_success focus skip)) ⟨_, ⟨u, rfl, hu, rfl⟩, rfl⟩
  · rw [if_neg hS, if_neg hS, if_neg hS]
    repeat' (first
      | (refine k_L ?_; first | refine a_p rfl ?_ | (refine k_st ?_; refine g_sw rfl rfl rfl rfl (Nat.le_of_ble_eq_true rfl) ?_) | (refine k_al ?_; refine a_al ?_) | (refine k_bx ?_; refine a_bx rfl rfl ?_) | (refine k_c ?_; refine a_cq rfl (fun m hm => qt_e (sound_q (x := x) (has_g h hm)) (congrArg Value.bool (decide_eq_false hS))) ?_))
      | refine a_n ?_
      | (refine k_V ?_; first | refine v_seq ?_ | refine v_reg ?_ | refine v_ret ?_ | refine v_ct rfl ?_)
      | refine s_r ?_
      | refine sk_zero ?_
      | refine sk_succ ?_
      | refine wk_nil ?_
      | refine wk_cons ?_)
    exact fa_r (As' := HX.nil.body ++ [ro m]) (fun _ _ => rfl) nil_ent ⟨_, ⟨HX.nil, rfl, rfl, rfl⟩, rfl⟩
theorem specSettle_a {m : Mem} {x : HX} (h : Has m x.body) : FnA Try.prog 55 [x.v] [ro m] (outAN2 m x.H.settleA (settleG x.H) (settleD x.H)) := by
  unfold Heap.settleA settleG settleD
  refine fnA_of (fun h => fn55 (by simp) h) ?_
  by_cases hS : okH x.H = 0
  · have hs1 := (okH_sound x.H).1 hS
    rw [if_pos hS, if_pos hS, if_pos hS]
    repeat' (first
      | (refine k_L ?_; first | refine a_p rfl ?_ | (refine k_al ?_; refine a_al ?_) | (refine k_bx ?_; refine a_bx rfl rfl ?_) | (refine k_c ?_; refine a_cq rfl (fun m hm => qt_e (specHeapOk_q (x := x) (has_g h hm)) (by rw [hS])) ?_) | (refine g_c rfl (l1copy_a h hs1.r1 hs1.r2) (fun v As' hq => ?_); obtain ⟨b, z, rfl, rfl, hz⟩ := hq))
      | refine a_n ?_
      | (refine k_V ?_; first | refine v_seq ?_ | refine v_reg ?_ | refine v_skip ?_ | refine v_cf rfl ?_))
    refine g_c rfl (l4settle_a (x := z) (by rw [hz]; exact hs1)) (fun v As' hq => ?_)
    obtain ⟨u, rfl, rfl, hu⟩ := hq
    rw [hz] at hu ⊢
    generalize (g1 x.H x.H.cells.length) = ng
    generalize (d2 x.H x.H.cells.length) = nd
    refine a_p rfl ?_
    refine a_p (sv := .v (.int .i64 ng)) rfl ?_
    refine a_p (sv := .v (.int .i64 nd)) rfl ?_
    refine a_p rfl ?_
    refine a_p rfl (a_n ?_)
    repeat' (first
      | refine a_n ?_
      | (refine k_V ?_; first | refine v_seq ?_ | refine v_reg ?_))
    refine a_p rfl ?_
    refine a_p rfl ?_
    repeat' (first
      | (refine k_L ?_; (refine k_ls ?_; refine g_ls rfl ?_))
      | refine a_n ?_)
    refine a_p rfl ?_
    refine a_p rfl ?_
    refine a_p (sv := .v (u.vn2 ng nd)) rfl ?_
    repeat' (first
      | (refine k_L ?_; (refine k_st ?_; refine g_sw rfl rfl rfl rfl (Nat.le_of_ble_eq_true rfl) ?_))
      | refine a_n ?_
      | (refine k_V ?_; refine v_ret ?_)
      | refine sk_zero ?_
      | refine sk_succ ?_
      | refine wk_nil ?_
      | refine wk_cons ?_)
    exact fa_r (As' := u.body ++ [ro m]) (fun _ _ => rfl) (Pm.ent (by (fail_if_success apply pm_bad); (repeat (first | exact pm_nil | (apply pm_cons; repeat (first | exact pk_h | apply pk_t)))); fail_if_success focus skip)) ⟨_, ⟨u, rfl, hu, rfl⟩, rfl⟩
  · rw [if_neg hS, if_neg hS, if_neg hS]
    repeat' (first
      | (refine k_L ?_; first | refine a_p rfl ?_ | (refine k_st ?_; refine g_sw rfl rfl rfl rfl (Nat.le_of_ble_eq_true rfl) ?_) | (refine k_al ?_; refine a_al ?_) | (refine k_bx ?_; refine a_bx rfl rfl ?_) | (refine k_c ?_; refine a_cq rfl (fun m hm => specHeapOk_q (x := x) (has_g h hm)) ?_))
      | refine a_n ?_
      | (refine k_V ?_; first | refine v_seq ?_ | refine v_reg ?_ | refine v_ret ?_ | (refine v_cn rfl (fun hb => ?_) (fun hb => ?_) <;> try (exfalso; omega)))
      | refine s_r ?_
      | refine sk_zero ?_
      | refine sk_succ ?_
      | refine wk_nil ?_
      | refine wk_cons ?_)
    exact fa_r (As' := HX.nil.body ++ [ro m]) (fun _ _ => rfl) nil_ent ⟨_, ⟨HX.nil, rfl, rfl, rfl⟩, rfl⟩
end Go.Proofs.Ytcmllambknfleaa.E
set_option linter.unusedVariables false
set_option linter.unusedSimpArgs false
namespace Go.Proofs.Ytcmllambknfleaa.E
open Go
open Classical
theorem kept_at (H : Heap) (c : Cell) : ∀ (ps : List Pair) (n k : Nat) (p : Pair), (kept H c ps)[k]? = some p → ∃ k' : Nat, ps[k']? = some p ∧ (k < (kept H c (ps.take n)).length ↔ k' < n)
  | [], n, k, p, h => by simp [kept_nil] at h
  | a :: r, n, k, p, h => by
    have e : a :: r = [a] ++ r := rfl
    rw [e, kept_app, kept_one] at h
    have ht : ∀ n, (a :: r).take (n + 1) = [a] ++ r.take n := fun n => rfl
    by_cases hg : GoneP H c a
    · rw [if_pos hg, List.nil_append] at h
      cases n with
      | zero =>
        obtain ⟨k', a1, a2⟩ := kept_at H c r 0 k p h
        exact ⟨k' + 1, a1, by simp [kept_nil]⟩
      | succ n =>
        obtain ⟨k', a1, a2⟩ := kept_at H c r n k p h
        refine ⟨k' + 1, a1, ?_⟩
        rw [ht, kept_app, kept_one, if_pos hg, List.nil_append]; omega
    · rw [if_neg hg] at h
      cases k with
      | zero =>
        simp only [List.cons_append, List.nil_append, List.getElem?_cons_zero, Option.some.injEq] at h
        subst h
        refine ⟨0, rfl, ?_⟩
        cases n with
        | zero => simp [kept_nil]
        | succ n => rw [ht, kept_app, kept_one, if_neg hg]; simp
      | succ k =>
        simp only [List.cons_append, List.nil_append, List.getElem?_cons_succ] at h
        cases n with
        | zero =>
          obtain ⟨k', a1, a2⟩ := kept_at H c r 0 k p h
          exact ⟨k' + 1, a1, by simp [kept_nil]⟩
        | succ n =>
          obtain ⟨k', a1, a2⟩ := kept_at H c r n k p h
          refine ⟨k' + 1, a1, ?_⟩
          rw [ht, kept_app, kept_one, if_neg hg, List.length_append]
          simp only [List.length_singleton]; omega
theorem walked_sub {K : Heap} (h : Sound K) {i : Nat} (hi : i < K.cells.length) (hw : K.walkedI = i) : K.sub ≤ (K.getC i).pairs.length := by
  unfold Heap.walkedI at hw
  split at hw
  · rename_i h2
    have h6 := (r6_2 h2.1).1 h.r6
    cases hg : K.gray with
    | nil => exact absurd hg h2.2
    | cons a r =>
      rw [hg] at h6 hw
      simp only [List.headD_cons] at hw
      rw [← hw]; exact h6.2
  · split at hw
    · rename_i h5
      have h6 := (r6_5 h5.1).1 h.r6
      rw [← hw]
      split at h6
      · exact h6
      · rw [h6]; omega
    · omega
/-- a cell's pairs thinned -/
theorem thin_sound {H K : Heap} {i : Nat} (l : Like H K) (h : Sound K) (hi : i < K.cells.length) : Sound (H.cutC K i) ∧ Like K (H.cutC K i) := by
  have hc := getL_some (cs := K.cells) (j := i) (by omega) (by omega)
  rw [show ((i : Int)).toNat = i by omega, ← getC_L] at hc
  have hw := l.walked
  have hsb := fun e => walked_sub h hi e
  generalize ec : K.getC i = c at hc hsb
  have hsub : (H.cutC K i).sub = if K.walkedI = i then ((kept H c (c.pairs.take K.sub.toNat)).length : Int) else K.sub := by
    show (if H.walkedI = i then _ else _) = _
    rw [← hw, ec]
    split
    · rename_i e
      have := kept_len H c (c.pairs.take K.sub.toNat)
      rw [List.length_take] at this
      have h1 := hsb e
      have h2 := h.r1.sub
      omega
    · rfl
  have hcs : (H.cutC K i).cells = K.cells.set i { c with pairs := kept H c c.pairs } := by rw [← ec]; rfl
  have gC : ∀ j : Int, (H.cutC K i).getC j = if j.toNat = i then { c with pairs := kept H c c.pairs } else K.getC j := fun j => by
    rw [getC_L, getC_L, hcs]; exact getL_set hi
  have hl : (H.cutC K i).cells.length = K.cells.length := by rw [hcs]; simp
  have lk : Like K (H.cutC K i) := like_set hi (c := { c with pairs := kept H c c.pairs }) (by rw [ec]; exact ⟨rfl, rfl, rfl, rfl, rfl, rfl⟩) hcs rfl rfl rfl rfl rfl rfl rfl rfl rfl rfl
  have hkl := kept_len H c c.pairs
  have hnil : c.pairs = [] → kept H c c.pairs = [] := fun e => by rw [e]; rfl
  have hbr : Bare c → Bare { c with pairs := kept H c c.pairs } := fun ⟨a1, a2, a3, a4, a5, a6⟩ => ⟨a1, a2, a3, a4, a5, hnil a6⟩
  have hor : ∀ (j : Nat) d, (H.cutC K i).cells[j]? = some d → ∃ d0, K.cells[j]? = some d0 ∧ (j = i ∧ d0 = c ∧ d = { c with pairs := kept H c c.pairs } ∨ j ≠ i ∧ d = d0) := fun j d hd => by rw [hcs] at hd; exact orig hc hd
  have hst : ∀ j : Int, ((H.cutC K i).getC j).state = (K.getC j).state := fun j => (lk.cell j).1
  have hph : (H.cutC K i).phase = K.phase := lk.phase
  have hhd : (H.cutC K i).hand = K.hand := lk.hand
  have hgr : (H.cutC K i).gray = K.gray := lk.gray
  have hdm : ∀ j, Doomed (H.cutC K i) j ↔ Doomed K j := fun j => by unfold Doomed; rw [hph, hst, (lk.cell j).2.2.2.2.2, hhd]
  have hwh : ∀ w, White (H.cutC K i) w ↔ White K w := fun w => by unfold White; rw [(lk.cell _).2.2.2.2.2]
  have same : ∀ (j : Nat) d d0, (j = i ∧ d0 = c ∧ d = { c with pairs := kept H c c.pairs } ∨ j ≠ i ∧ d = d0) → d.state = d0.state ∧ d.to = d0.to ∧ d.born = d0.born ∧ d.color = d0.color ∧ d.last = d0.last := fun j d d0 x => by
    rcases x with ⟨_, rfl, rfl⟩ | ⟨_, rfl⟩ <;> exact ⟨rfl, rfl, rfl, rfl, rfl⟩
  -- a pair that stays, and the place where it stood
  have hat : ∀ (j : Nat) d d0, (j = i ∧ d0 = c ∧ d = { c with pairs := kept H c c.pairs } ∨ j ≠ i ∧ d = d0) → ∀ (k : Nat) p, d.pairs[k]? = some p → ∃ k' : Nat, d0.pairs[k']? = some p ∧ (K.walkedI = j → ((k : Int) < (H.cutC K i).sub ↔ (k' : Int) < K.sub)) := fun j d d0 x k p hp => by
    rcases x with ⟨rfl, rfl, rfl⟩ | ⟨hj, rfl⟩
    · obtain ⟨k', a1, a2⟩ := kept_at H d0 d0.pairs K.sub.toNat k p hp
      refine ⟨k', a1, fun e => ?_⟩
      rw [hsub, if_pos e]
      have := h.r1.sub
      omega
    · refine ⟨k, hp, fun e => ?_⟩
      rw [hsub, if_neg (by omega)]
  have hsle : (H.cutC K i).sub ≤ K.sub ∧ 0 ≤ (H.cutC K i).sub := by
    rw [hsub]
    have := h.r1.sub
    split
    · have := kept_len H c (c.pairs.take K.sub.toNat)
      rw [List.length_take] at this
      omega
    · omega
  have hs6 : ∀ j : Int, K.walkedI = j → 0 ≤ j → j < K.cells.length → K.sub ≤ (K.getC j).pairs.length → (H.cutC K i).sub ≤ ((H.cutC K i).getC j).pairs.length := fun j e j0 j1 hs => by
    rw [hsub, gC]
    by_cases ej : j.toNat = i
    · rw [if_pos ej, if_pos (by omega)]
      have := kept_app H c (c.pairs.take K.sub.toNat) (c.pairs.drop K.sub.toNat)
      rw [List.take_append_drop] at this
      show _ ≤ ((kept H c c.pairs).length : Int)
      rw [this, List.length_append]; omega
    · rw [if_neg ej, if_neg (by omega)]; exact hs
  refine ⟨⟨?_, ⟨fun j d hd => ?_, fun j k d e hd he hjk h1 h2 => ?_, fun j k d e hd he hjk h1 h2 => ?_⟩, ?_, ⟨fun w hw => ?_, fun j d hd hdo hr => ?_, fun j d hd k p hp => ?_⟩, ⟨fun hm => ?_, fun hm => ?_⟩, ?_, fun hm j d hd => ?_, fun hp j d hd hj => ?_⟩, lk⟩
  · have := h.r1.sub
    exact { h.r1 with cells := by rw [hl]; exact h.r1.cells, gray := by rw [hl]; exact h.r1.gray, hand := by rw [hl]; exact h.r1.hand, sub := by omega }
  · obtain ⟨d0, hd0, x⟩ := hor j d hd
    have hmv : ∀ d1, MovedOk K j d0 → (d1.state = d0.state ∧ (Bare d0 → Bare d1) ∧ d1.to = d0.to) → MovedOk (H.cutC K i) j d1 := fun d1 ⟨a1, a2, a3, a4, a5, a6⟩ ⟨b1, b2, b3⟩ =>
      ⟨b1.trans a1, b2 a2, by rw [hph]; exact a3, by rw [b3]; exact a4, by rw [b3, hst]; exact a5, fun hp k k0 k1 => by rw [hst]; exact a6 (by rw [← hph]; exact hp) k k0 (by rw [← b3]; exact k1)⟩
    rcases x with ⟨rfl, rfl, rfl⟩ | ⟨_, rfl⟩
    · rcases h.r2.each j d0 hd0 with h1 | h1 | h1
      · exact .inl ⟨h1.1, hbr h1.2.1, h1.2.2⟩
      · exact .inr (.inl (hmv _ h1 ⟨rfl, hbr, rfl⟩))
      · obtain ⟨a1, a2, a3, a4, a5, a6, a7, a8⟩ := h1
        exact .inr (.inr ⟨a1, a2, a3, a4, a5, a6, a7, by show (kept H d0 d0.pairs).length ≤ 200; omega⟩)
    · rcases h.r2.each j d hd0 with h1 | h1 | h1
      · exact .inl h1
      · exact .inr (.inl (hmv _ h1 ⟨rfl, id, rfl⟩))
      · exact .inr (.inr h1)
  · obtain ⟨d0, hd0, x⟩ := hor j d hd
    obtain ⟨e0, he0, y⟩ := hor k e he
    have s1 := same _ _ _ x
    have s2 := same _ _ _ y
    rw [s1.2.2.1, s2.2.2.1]
    exact h.r2.born j k d0 e0 hd0 he0 hjk (by rw [← s1.1]; exact h1) (by rw [← s2.1]; exact h2)
  · obtain ⟨d0, hd0, x⟩ := hor j d hd
    obtain ⟨e0, he0, y⟩ := hor k e he
    have s1 := same _ _ _ x
    have s2 := same _ _ _ y
    rw [s1.2.1, s2.2.1]
    exact h.r2.to j k d0 e0 hd0 he0 hjk (by rw [← s1.1]; exact h1) (by rw [← s2.1]; exact h2)
  · obtain ⟨r1, r2⟩ := h.r3
    unfold R3
    rw [hcs, units_set hc]
    have hu : (H.cutC K i).used = K.used - (nGone H c c.pairs : Nat) := by rw [← ec]; rfl
    have hrm : (H.cutC K i).room = K.room := lk.room
    rw [hu, hrm]
    have : Cell.units { c with pairs := kept H c c.pairs } = c.units - (nGone H c c.pairs : Nat) := by
      unfold Cell.units
      show (if c.state = 1 then 1 + ((kept H c c.pairs).length : Int) else 0) = _
      split
      · omega
      · rename_i hn
        have := (h.r2.bare hc hn).2.2.2.2.2
        rw [this] at hkl ⊢
        simp only [kept_nil, List.length_nil] at hkl
        omega
    rw [this]; omega
  · obtain ⟨a, b⟩ := h.r4.regs w (by rw [← lk.regs]; exact hw)
    exact ⟨formed_len hl a, leads_of hst (fun j => (hdm j).1) id b⟩
  · obtain ⟨d0, hd0, x⟩ := hor j d hd
    refine h.r4.roots j d0 hd0 ((hdm j).1 hdo) ?_
    have s1 := same _ _ _ x
    unfold Root at hr ⊢
    rw [← s1.1, ← s1.2.2.2.2]; exact hr
  · obtain ⟨d0, hd0, x⟩ := hor j d hd
    obtain ⟨k', hk', hkk⟩ := hat j d d0 x k p hp
    obtain ⟨a, b, g⟩ := h.r4.pairs j d0 hd0 k' p hk'
    refine ⟨formed_len hl a, formed_len hl b, fun hn => ?_⟩
    obtain ⟨g1, g2⟩ := g (fun h' => hn ((hdm j).2 h'))
    have hmm : ¬ Mended K j k' → ¬ Mended (H.cutC K i) j k := fun hn hmd => hn (by
      unfold Mended at hmd ⊢
      rw [hph, hhd] at hmd
      refine ⟨hmd.1, fun h5 => ?_⟩
      rcases hmd.2 h5 with h1 | ⟨h1, h2⟩
      · exact .inl h1
      · have hj : j < K.cells.length := (List.getElem?_eq_some_iff.1 hd0).1
        have hwk : K.walkedI = j := by
          unfold Heap.walkedI
          rw [if_neg (by omega), if_pos ⟨h5, by omega⟩]; omega
        exact .inr ⟨h1, (hkk hwk).1 h2⟩)
    exact ⟨leads_of hst (fun j => (hdm j).1) hmm g1, leads_of hst (fun j => (hdm j).1) hmm g2⟩
  · have hm' : Marking K := by unfold Marking at hm ⊢; rw [hph] at hm; exact hm
    obtain ⟨a, b, c'⟩ := h.r5.mark hm'
    rw [hgr]
    refine ⟨a, fun g hg => ?_, fun j d hd hcl => ?_⟩
    · rw [hl, hst, (lk.cell g).2.2.2.2.2]; exact b g hg
    · obtain ⟨d0, hd0, x⟩ := hor j d hd
      exact c' j d0 hd0 (by rw [← (same _ _ _ x).2.2.2.1]; exact hcl)
  · have hm' : ¬ Marking K := by unfold Marking at hm ⊢; rw [hph] at hm; exact hm
    obtain ⟨a, b⟩ := h.r5.else_ hm'
    rw [hgr, hph, hhd]
    refine ⟨a, fun j d hd => ?_⟩
    obtain ⟨d0, hd0, x⟩ := hor j d hd
    rw [(same _ _ _ x).2.2.2.1]; exact b j d0 hd0
  · have h6 := h.r6
    by_cases p0 : K.phase = 0 ∨ K.phase = 4
    · rw [r6_0 p0] at h6
      rw [r6_0 (by rw [hph]; exact p0), hhd]
      exact ⟨h6.1, by omega⟩
    by_cases p2 : K.phase = 2
    · rw [r6_2 p2] at h6
      rw [r6_2 (by rw [hph]; exact p2), hhd, hgr]
      refine ⟨h6.1, ?_⟩
      cases hg : K.gray with
      | nil => rw [hg] at h6; simp only at h6 ⊢; omega
      | cons a r =>
        rw [hg] at h6; simp only at h6 ⊢
        obtain ⟨_, g2, _⟩ := h.r5.mark (.inr p2)
        have ha := g2 a (by rw [hg]; simp)
        refine hs6 a ?_ ha.1 ha.2.1 h6.2
        unfold Heap.walkedI
        rw [if_pos ⟨p2, by rw [hg]; simp⟩, hg]; rfl
    by_cases p5 : K.phase = 5
    · rw [r6_5 p5] at h6
      rw [r6_5 (by rw [hph]; exact p5), hhd, hl, hst]
      split
      · rename_i e
        rw [if_pos e] at h6
        have := h.r1.hand
        refine hs6 K.hand ?_ this.1 e.1 h6
        unfold Heap.walkedI
        rw [if_neg (by omega), if_pos ⟨p5, e.1⟩]
      · rename_i e
        rw [if_neg e] at h6; omega
    · rw [r6_e (by omega)] at h6
      rw [r6_e (by rw [hph]; omega)]; omega
  · have hm' : Marking K := by unfold Marking at hm ⊢; rw [hph] at hm; exact hm
    obtain ⟨d0, hd0, x⟩ := hor j d hd
    obtain ⟨a, b⟩ := h.r7 hm' j d0 hd0
    have s1 := same _ _ _ x
    refine ⟨fun hr hcl => ?_, fun k p hp hsc => ?_⟩
    · rw [hph, hhd]
      refine a ?_ (by rw [← s1.2.2.2.1]; exact hcl)
      unfold Root at hr ⊢
      rw [← s1.1, ← s1.2.2.2.2]; exact hr
    · obtain ⟨k', hk', hkk⟩ := hat j d d0 x k p hp
      have hlt := (List.getElem?_eq_some_iff.1 hk').1
      have : (k' : Int) < scanned K j d0 := by
        unfold scanned at hsc ⊢
        rw [hph, hgr, s1.2.2.2.1] at hsc
        split
        · omega
        · rename_i h2
          rw [if_neg h2] at hsc
          split at hsc
          · rename_i e
            rw [if_pos e]
            refine (hkk ?_).1 hsc
            unfold Heap.walkedI
            cases hg : K.gray with
            | nil => rw [hg] at e; simp at e
            | cons g r =>
              rw [hg] at e
              rw [if_pos ⟨e.1, by simp⟩]
              simp only [List.head?_cons, Option.some.injEq] at e
              simp only [List.headD_cons]; exact e.2
          · omega
      obtain ⟨b1, b2⟩ := b k' p hk' this
      exact ⟨fun h => b1 ((hwh _).1 h), fun h => b2 ((hwh _).1 h)⟩
  · obtain ⟨d0, hd0, x⟩ := hor j d hd
    rw [(same _ _ _ x).1]
    exact h.r8 (by rw [← hph]; exact hp) j d0 hd0 (by rw [← hhd]; exact hj)
theorem p1_sound {H : Heap} (h : Sound H) : ∀ i : Nat, i ≤ H.cells.length → Sound (p1 H i)
  | 0, _ => h
  | i + 1, hi => by
    have ih := p1_sound h i (by omega)
    have l := (p1_ok H i (by omega)).1
    simp only [p1]
    split
    · exact (thin_sound l ih (by rw [l.len]; omega)).1
    · exact ih
/-- a last word becomes due -/
theorem due_sound {K : Heap} {i : Nat} (h : Sound K) (hi : i < K.cells.length) (hl1 : (K.getC i).last = 1) : Sound { K with cells := K.cells.set i { K.getC i with last := 2 } } := by
  have hc := getL_some (cs := K.cells) (j := i) (by omega) (by omega)
  rw [show ((i : Int)).toNat = i by omega, ← getC_L] at hc
  generalize ec : K.getC i = c at hc hl1
  generalize eK : ({ K with cells := K.cells.set i { c with last := 2 } } : Heap) = K'
  have hcs : K'.cells = K.cells.set i { c with last := 2 } := by rw [← eK]
  have gC : ∀ j : Int, K'.getC j = if j.toNat = i then { c with last := 2 } else K.getC j := fun j => by
    rw [getC_L, getC_L, hcs]; exact getL_set hi
  have hl : K'.cells.length = K.cells.length := by rw [hcs]; simp
  have lk : Like K K' := like_set hi (c := { c with last := 2 }) (by rw [ec]; exact ⟨rfl, rfl, rfl, rfl, rfl, rfl⟩) hcs (by rw [← eK]) (by rw [← eK]) (by rw [← eK]) (by rw [← eK]) (by rw [← eK]) (by rw [← eK]) (by rw [← eK]) (by rw [← eK]) (by rw [← eK]) (by rw [← eK])
  have hu : c.state = 1 := by
    by_cases e : c.state = 1
    · exact e
    · have := (h.r2.bare hc e).2.2.1; omega
  have hor : ∀ (j : Nat) d, K'.cells[j]? = some d → ∃ d0, K.cells[j]? = some d0 ∧ (j = i ∧ d0 = c ∧ d = { c with last := 2 } ∨ j ≠ i ∧ d = d0) := fun j d hd => by rw [hcs] at hd; exact orig hc hd
  have hst : ∀ j : Int, (K'.getC j).state = (K.getC j).state := fun j => (lk.cell j).1
  have hpr : ∀ j : Int, (K'.getC j).pairs = (K.getC j).pairs := fun j => by
    rw [gC]; split
    · rename_i e; rw [← ec]; have : K.getC j = K.getC i := by rw [getC_L, getC_L]; unfold getL; rw [e]; rfl
      rw [this]
    · rfl
  have hsb : K'.sub = K.sub := by rw [← eK]
  have hus : K'.used = K.used := by rw [← eK]
  have hph := lk.phase
  have hhd := lk.hand
  have hgr := lk.gray
  have hdm : ∀ j, Doomed K' j ↔ Doomed K j := fun j => by unfold Doomed; rw [hph, hst, (lk.cell j).2.2.2.2.2, hhd]
  have hwh : ∀ w, White K' w ↔ White K w := fun w => by unfold White; rw [(lk.cell _).2.2.2.2.2]
  have same : ∀ (j : Nat) d d0, (j = i ∧ d0 = c ∧ d = { c with last := 2 } ∨ j ≠ i ∧ d = d0) → d.state = d0.state ∧ d.to = d0.to ∧ d.born = d0.born ∧ d.color = d0.color ∧ d.pairs = d0.pairs ∧ (Root d → Root d0) := fun j d d0 x => by
    rcases x with ⟨_, rfl, rfl⟩ | ⟨_, rfl⟩
    · exact ⟨rfl, rfl, rfl, rfl, rfl, fun _ => ⟨hu, .inl hl1⟩⟩
    · exact ⟨rfl, rfl, rfl, rfl, rfl, id⟩
  refine ⟨?_, ⟨fun j d hd => ?_, fun j k d e hd he hjk h1 h2 => ?_, fun j k d e hd he hjk h1 h2 => ?_⟩, ?_, ?_, ⟨fun hm => ?_, fun hm => ?_⟩, ?_, fun hm j d hd => ?_, fun hp j d hd hj => ?_⟩
  · rw [← eK] at hl ⊢
    exact { h.r1 with cells := by rw [hl]; exact h.r1.cells, gray := by rw [hl]; exact h.r1.gray, hand := by rw [hl]; exact h.r1.hand }
  · obtain ⟨d0, hd0, x⟩ := hor j d hd
    rcases x with ⟨rfl, rfl, rfl⟩ | ⟨_, rfl⟩
    · obtain ⟨a1, a2, a3, a4, a5, a6, a7, a8⟩ := h.r2.used hd0 hu
      exact .inr (.inr ⟨a1, a2, a3, by show (0:Int) ≤ 2 ∧ (2:Int) ≤ 3; omega, by rw [lk.born]; exact a5, a6, a7, a8⟩)
    · rcases h.r2.each j d hd0 with h1 | ⟨a1, a2, a3, a4, a5, a6⟩ | h1
      · exact .inl h1
      · exact .inr (.inl ⟨a1, a2, by rw [hph]; exact a3, a4, by rw [hst]; exact a5, fun hp k k0 k1 => by rw [hst]; exact a6 (by rw [← hph]; exact hp) k k0 k1⟩)
      · exact .inr (.inr ⟨h1.1, h1.2.1, h1.2.2.1, h1.2.2.2.1, by rw [lk.born]; exact h1.2.2.2.2.1, h1.2.2.2.2.2⟩)
  · obtain ⟨d0, hd0, x⟩ := hor j d hd
    obtain ⟨e0, he0, y⟩ := hor k e he
    have s1 := same _ _ _ x
    have s2 := same _ _ _ y
    rw [s1.2.2.1, s2.2.2.1]
    exact h.r2.born j k d0 e0 hd0 he0 hjk (by rw [← s1.1]; exact h1) (by rw [← s2.1]; exact h2)
  · obtain ⟨d0, hd0, x⟩ := hor j d hd
    obtain ⟨e0, he0, y⟩ := hor k e he
    have s1 := same _ _ _ x
    have s2 := same _ _ _ y
    rw [s1.2.1, s2.2.1]
    exact h.r2.to j k d0 e0 hd0 he0 hjk (by rw [← s1.1]; exact h1) (by rw [← s2.1]; exact h2)
  · unfold R3
    rw [hcs, units_set hc, hus, lk.room]
    have : Cell.units { c with last := 2 } = c.units := rfl
    rw [this]
    have := h.r3
    unfold R3 at this; omega
  · exact r4_frame h.r4 hl lk.regs hst hdm (fun j d hd => by
      obtain ⟨d0, hd0, x⟩ := hor j d hd
      have s1 := same _ _ _ x
      exact ⟨d0, hd0, s1.2.2.2.2.1, s1.2.2.2.2.2⟩) (fun j k d p _ _ hm => by unfold Mended at hm ⊢; rw [hph, hhd, hsb] at hm; exact hm)
  · have hm' : Marking K := by unfold Marking at hm ⊢; rw [hph] at hm; exact hm
    obtain ⟨a, b, c'⟩ := h.r5.mark hm'
    rw [hgr]
    refine ⟨a, fun g hg => ?_, fun j d hd hcl => ?_⟩
    · rw [hl, hst, (lk.cell g).2.2.2.2.2]; exact b g hg
    · obtain ⟨d0, hd0, x⟩ := hor j d hd
      exact c' j d0 hd0 (by rw [← (same _ _ _ x).2.2.2.1]; exact hcl)
  · have hm' : ¬ Marking K := by unfold Marking at hm ⊢; rw [hph] at hm; exact hm
    obtain ⟨a, b⟩ := h.r5.else_ hm'
    rw [hgr, hph, hhd]
    refine ⟨a, fun j d hd => ?_⟩
    obtain ⟨d0, hd0, x⟩ := hor j d hd
    rw [(same _ _ _ x).2.2.2.1]; exact b j d0 hd0
  · have h6 := h.r6
    unfold R6 at h6 ⊢
    rw [hph, hhd, hsb, hgr, hl, hst, hpr]
    cases hg : K.gray with
    | nil => rw [hg] at h6; exact h6
    | cons a r => rw [hg] at h6; simp only [hpr] at h6 ⊢; exact h6
  · have hm' : Marking K := by unfold Marking at hm ⊢; rw [hph] at hm; exact hm
    obtain ⟨d0, hd0, x⟩ := hor j d hd
    obtain ⟨a, b⟩ := h.r7 hm' j d0 hd0
    have s1 := same _ _ _ x
    refine ⟨fun hr hcl => ?_, fun k p hp hsc => ?_⟩
    · rw [hph, hhd]
      exact a (s1.2.2.2.2.2 hr) (by rw [← s1.2.2.2.1]; exact hcl)
    · obtain ⟨b1, b2⟩ := b k p (by rw [← s1.2.2.2.2.1]; exact hp) (by
        unfold scanned at hsc ⊢
        rw [hph, hgr, s1.2.2.2.1, s1.2.2.2.2.1, hsb] at hsc; exact hsc)
      exact ⟨fun h => b1 ((hwh _).1 h), fun h => b2 ((hwh _).1 h)⟩
  · obtain ⟨d0, hd0, x⟩ := hor j d hd
    rw [(same _ _ _ x).1]
    exact h.r8 (by rw [← hph]; exact hp) j d0 hd0 (by rw [← hhd]; exact hj)
theorem p2_sound {H : Heap} (h : Sound H) : ∀ i : Nat, i ≤ H.cells.length → Sound (p2 H i)
  | 0, _ => p1_sound h _ (Nat.le_refl _)
  | i + 1, hi => by
    have ih := p2_sound h i (by omega)
    obtain ⟨l, b, _⟩ := p2_ok H i (by omega)
    simp only [p2]
    split
    · rename_i e
      refine due_sound ih (by rw [l.len]; omega) ?_
      rw [b i (Nat.le_refl _), (p1_ok H _ (Nat.le_refl _)).2.2.1]; exact e.2
    · exact ih
theorem settle_sound {H : Heap} (h : Sound H) : Sound H.settleH := p2_sound h _ (Nat.le_refl _)
end Go.Proofs.Ytcmllambknfleaa.E
